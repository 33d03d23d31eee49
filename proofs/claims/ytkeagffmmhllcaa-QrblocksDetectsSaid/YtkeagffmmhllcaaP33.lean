/- QR blocks: the law Detects. -/
import Derived.Test.YtkeagffmmhllcaaP23
set_option linter.unusedVariables false
set_option linter.unusedSimpArgs false
set_option linter.unusedSectionVars false
namespace Go.Proofs.Ytkeagffmmhllcaa
open Go.Abs Go.RS
set_option linter.unusedSimpArgs false
set_option linter.unusedVariables false
set_option maxRecDepth 20000
def pcost (b : Bk) (wl rl : List Int) (er : Nat → Bool) (x k : Nat) : Nat := 2 * List.countP (fun i => decide ((b.at i).1 = x) && (!er i && decide (wl.getD i 0 ≠ rl.getD i 0))) (List.range k) + List.countP (fun i => decide ((b.at i).1 = x) && er i) (List.range k)
theorem pcost_all (b : Bk) (wl rl : List Int) (er : Nat → Bool) (x : Nat) : pcost b wl rl er x b.all = costX b wl rl er x := by
 unfold pcost costX cntX
 rw [List.countP_eq_length_filter, List.countP_eq_length_filter]
theorem pcost_zero (b : Bk) (wl rl : List Int) (er : Nat → Bool) (x : Nat) : pcost b wl rl er x 0 = 0 := rfl
theorem pcost_succ (b : Bk) (wl rl : List Int) (er : Nat → Bool) (x k : Nat) : pcost b wl rl er x (k + 1) = pcost b wl rl er x k + if (b.at k).1 = x then (if er k = true then 1 else if wl.getD k 0 ≠ rl.getD k 0 then 2 else 0) else 0 := by
 unfold pcost
 rw [List.range_succ, List.countP_append, List.countP_append, List.countP_singleton, List.countP_singleton]
 by_cases h : (b.at k).1 = x
 ·rw [if_pos h, decide_eq_true h]
  cases he : er k with
  | true => simp; omega
  | false =>
   generalize wl.getD k 0 = p
   generalize rl.getD k 0 = q
   by_cases hne : p = q
   ·simp [hne]
   ·simp [hne]; omega
 ·rw [if_neg h, decide_eq_false h]; simp
theorem pcost_le (b : Bk) (wl rl : List Int) (er : Nat → Bool) (x : Nat) : ∀ k, pcost b wl rl er x k ≤ 2 * k
 | 0 => by rw [pcost_zero]; omega
 | k + 1 => by
  rw [pcost_succ]
  have := pcost_le b wl rl er x k
  split
  ·split
   ·omega
   ·split <;> omega
  ·omega
section
theorem xTQza {cp : FuncId → Option CF} {lo : Nat} {l : List (Nat × E)} {chk : List E} {Q : Post} {S : List Value} {H : Heap} {vs : List (Nat × Value)} {dst : Option Nat} {o : HOp} {a : E} {xs : List Value} {pc : PC} (k : wpH cp lo o xs H fun v H' => Q .normal (setD (setAll S vs) dst v) H') (h : evSets S H l = some vs := by simp (disch := first | omega | (simp only [lenB]; omega)) only [evB, xBQi, Nat.reduceAdd, Nat.reduceBEq, *]; rfl) (hc : evChk S H chk = true := by simp (disch := first | omega | (simp only [lenB]; omega)) only [evB, xBQi, Nat.reduceAdd, Nat.reduceBEq, *]) (hp : holds S H pc = some true := by simp (disch := first | omega | (simp only [lenB]; omega)) only [evB, xBQi, Nat.reduceAdd, Nat.reduceBEq, *]; try rfl) (ha : ev S H a = some xs := by simp (disch := first | omega | (simp only [lenB]; omega)) only [evB, xBQi, Nat.reduceAdd, Nat.reduceBEq, *]; rfl) : wpS cp lo (.hv l chk pc dst o a) Q S H := aw_hvT h hc hp ha k
theorem lawDtc {H : Heap} {aw ae : Option Addr} {cw ce : Nat} {lw : List Int} {le : List Bool} {ver lev : Int}
  (hw : SlY H (.slice aw lw.length cw) lw) (hwr : ∀ x ∈ lw, 0 ≤ x ∧ x ≤ 255) (hwl : lw.length ≤ 9223372036854775807) (he : SlB H (.slice ae le.length ce) le) (hel : le.length ≤ 9223372036854775807) (hver : 0 ≤ ver ∧ ver ≤ 255) (hlev : 0 ≤ lev ∧ lev ≤ 255) :
  Ev cp H.length 6 [.slice aw lw.length cw, .slice ae le.length ce, .int .u8 ver, .int .u8 lev] H (fun v _ => v = .bool true) := by
 obtain ⟨v0, rfl⟩ : ∃ v0 : Nat, ver = (v0 : Int) := ⟨_, (Int.toNat_of_nonneg hver.1).symm⟩
 obtain ⟨l0, rfl⟩ : ∃ l0 : Nat, lev = (l0 : Int) := ⟨_, (Int.toNat_of_nonneg hlev.1).symm⟩
 have q1 : ((v0 : Nat) : Int).tmod 4 = ((v0 % 4 : Nat) : Int) := (Int.ofNat_tmod v0 4).symm
 have q2 : ((l0 : Nat) : Int).tmod 4 = ((l0 % 4 : Nat) : Int) := (Int.ofNat_tmod l0 4).symm
 have q3 : v0 % 4 ≤ 3 := by omega
 have q4 : l0 % 4 ≤ 3 := by omega
 generalize v0 % 4 = v1 at *
 generalize l0 % 4 = l1 at *
 have hvl : Vl (1 + (v1 : Int)) (1 + (l1 : Int)) := ⟨by omega, by omega⟩
 obtain ⟨i, hi, ha⟩ := vl_arg hvl
 have hb := bk_ok hi
 obtain ⟨p1, p2, p3⟩ := hb.pos
 have hP := placeP (lo := H.length) (H := H) hi ha (Nat.le_refl _)
 have hst : ∀ {H' : Heap}, H.length ≤ H'.length → _ := fun {H'} h => stV_vl (lo := H.length) (H := H') hi ha h
 have hEn : ∀ {H' : Heap} {vd : Value} {d : List Int}, SlI H' vd d → d.length ≤ 1000000000 → H.length ≤ H'.length → _ := fun {H' vd d} h1 h2 h => encP (lo := H.length) (H := H') h1 h2 hi ha h
 have hDe : ∀ {H' : Heap} {vw ve : Value} {wl : List Int} {el : List Bool}, SlI H' vw wl → SlB H' ve el → wl.length ≤ 1000000000 → el.length ≤ 1000000000 → H.length ≤ H'.length → _ := fun {H' vw ve wl el} h1 h2 h3 h4 h => decP (lo := H.length) (H := H') h1 h2 h3 h4 hi ha h
 clear ha
 generalize bk i = b at *
 have h7 := hb.all
 have h2n := hb.n
 have hck := hb.ck2
 have h1n : b.sh ≤ b.n := by unfold Bk.n; omega
 have hnn := hb.sh
 have hpll : b.plI.length = b.all := by unfold Bk.plI; rw [List.length_map, b.pl_len]
 have hs : ((b.sh : Nat) : Int) + ((b.lg : Nat) : Int) = ((b.n : Nat) : Int) := by unfold Bk.n; omega
 have hcap : b.cap ≤ 3706 := by
  have : b.all = b.cap + b.n * b.ck := rfl
  omega
 refine st6 ?_; unfold bd6 cf6; simp only [kB, ctlB]
 repeat' ((first | refine xSQi ?_ | refine xOQi rfl ?_); (try simp only [ctlB]))
 refine xHQi ?_
 refine wpH_call0 hP ?_
 rintro r H3 ⟨hx3, vp, rfl, hp⟩
 have hl3 := hx3.1
 have hp0 := hp
 obtain ⟨ap, cp', e0⟩ := hp.len
 rw [hpll] at e0
 subst e0
 clear hP hp
 (try simp only [ctlB])
 repeat' ((first | refine xSQi ?_ | refine xOQi rfl ?_); (try simp only [ctlB]))
 refine xHQi ?_
 refine wpH_call0 (hst hl3) ?_
 rintro r H4 ⟨hx4, rfl⟩
 have hp0 := hp0.mono hx4
 have hx4 := hx3.trans hx4
 have hl4 := hx4.1
 clear hst hx3
 unfold Bk.val
 (try simp only [ctlB])
 repeat' ((first | refine xSQi ?_ | refine xOQi rfl ?_); (try simp only [ctlB]))
 generalize hG : H4 ++ _ = G4 at *
 obtain ⟨g0, hxG⟩ := box_facts hG
 clear hG
 have hp0 := hp0.mono hxG
 have hx5 := hx4.trans hxG
 have hl5 := hx5.1
 have hlg := Heap.get_lt g0
 clear hxG hx4
 refine xCQi (fun h => ?_) (fun h => ?_)
 ·simp at h
 clear h
 (try simp only [ctlB])
 repeat' ((first | refine xSQi ?_ | refine xOQi rfl ?_); (try simp only [ctlB]))
 refine aw_for (fun k S H' => Ext G4 H' ∧ ∃ v10 v11 b10 b11 rl el, Own G4.length 1 H' v10 b10 (intL rl) ∧ Own G4.length 1 H' v11 b11 (boolL el) ∧ b10 ≠ b11 ∧ (b11 < G4.length + 1 ∨ b11 < H'.length) ∧ rl.length = k ∧ el.length = k ∧ (∀ i, i < k → 0 ≤ rl.getD i 0 ∧ rl.getD i 0 ≤ 255) ∧ ∃ (z : Nat → Value), S = [.slice aw lw.length cw, .slice ae le.length ce, z 2, z 3, z 4, .int .i64 (1 + (v1 : Nat)), .int .i64 (1 + (l1 : Nat)), .slice ap b.all cp', z 8, .pointer (some ⟨H4.length, 0, none⟩), v10, v11, .int .i64 (k : Nat), z 13, z 14, z 15, z 16, z 17, z 18, z 19, z 20, z 21, z 22, z 23, z 24, z 25, z 26, z 27, z 28, z 29, z 30, z 31, z 32, z 33, z 34, z 35]) b.all ?_ ?_ ?_ ?_
 ·exact ⟨Ext.refl _, _, _, _, _, [], [], Own.nil (b := G4.length + 1) (by omega), Own.nil (b := G4.length) (by omega), by omega, by omega, rfl, rfl, by omega, exZGc  rfl⟩
 ·rintro k S H' hk ⟨-, v10, v11, b10, b11, rl, el, -, -, -, -, -, -, -, z,  rfl⟩
  exact ⟨_, by simp (disch := first | omega | (simp only [lenB]; omega)) only [evB, xBQi, Nat.reduceAdd, Nat.reduceBEq, *]; rfl, by simp⟩
 ·rintro k S H5 hk ⟨hx6, v10, v11, b10, b11, rl, el, o10, o11, hne, hb11, lr, lE, hby, z,  rfl⟩
  have hl6 := hx6.1
  have hx06 := hx5.trans hx6
  have hrl : rl.length ≤ 4000 ∧ el.length ≤ 4000 := by omega
  (try simp only [ctlB])
  ((first | refine xSQi ?_ | refine xOQi rfl ?_); (try simp only [ctlB]))
  refine aw_midX (fun S' H' => H5 = H' ∧ ∃ (w : Nat), w ≤ 255 ∧ ∃ (z : Nat → Value), S' = [.slice aw lw.length cw, .slice ae le.length ce, z 2, z 3, z 4, .int .i64 (1 + (v1 : Nat)), .int .i64 (1 + (l1 : Nat)), .slice ap b.all cp', z 8, .pointer (some ⟨H4.length, 0, none⟩), v10, v11, .int .i64 (k : Nat), .int .i64 w, z 14, z 15, z 16, z 17, z 18, z 19, z 20, z 21, z 22, z 23, z 24, z 25, z 26, z 27, z 28, z 29, z 30, z 31, z 32, z 33, z 34, z 35]) ?_ ?_
  ·by_cases hk2 : k < lw.length
   ·obtain ⟨xb, xo, xsp, xc, xs, e1, gx, fx, _⟩ := (hw.mono hx06).els 0 (by omega)
    cases e1
    have kx := fx k hk2
    have hm := hwr (lw.getD k 0) (by rw [List.getD_eq_getElem?_getD, List.getElem?_eq_getElem hk2]; exact List.getElem_mem hk2)
    obtain ⟨q, hq⟩ : ∃ q : Nat, lw.getD k 0 = (q : Int) := ⟨_, (Int.toNat_of_nonneg hm.1).symm⟩
    rw [hq] at kx hm
    clear fx hq
    refine xCQi (fun h => ?_) (fun h => ?_)
    case refine_2 => exfalso; simp at h <;> omega
    clear h
    (try simp only [ctlB])
    repeat' ((first | refine xSQi ?_ | refine xOQi rfl ?_); (try simp only [ctlB]))
    exact ⟨by trivial, q, by omega, exZGc  rfl⟩
   ·refine xCQi (fun h => ?_) (fun h => ?_)
    ·exfalso; simp at h <;> omega
    clear h
    (try simp only [ctlB])
    exact ⟨by trivial, 0, by omega, exZGc  rfl⟩
  rintro S' _ ⟨rfl, w, hw255, z,  rfl⟩
  (try simp only [ctlB])
  repeat' ((first | refine xSQi ?_ | refine xOQi rfl ?_); (try simp only [ctlB]))
  refine xHQi ?_
  refine wpH_app (b := b10) (cells := intL rl) (c' := [.int .i64 (w : Nat)]) (c := [.int .i64 (w : Nat)]) ((o10.mono (Ext.app _ _)).lower (by omega)) (by simp; omega) (by omega) (by omega) (by rw [intL_len]; omega) get_app0 (by simp) rfl rfl ?_
  rw [show intL rl ++ [Value.int .i64 (w : Nat)] = intL (rl ++ [((w : Nat) : Int)]) by rw [intL_app]; rfl]
  intro v10' H6 o10' hk6 hl7
  replace hl7 : H6.length = H5.length + 2 := by simpa using hl7
  have hx7 := hk6.ext (hx6.trans (Ext.app H5 _)) o10.1
  have o10' : Own G4.length 1 H6 v10' (H5.length + 1) (intL (rl ++ [((w : Nat) : Int)])) := ⟨by omega, by simpa using o10'.2⟩
  have o11 := (o11.mono (Ext.app H5 [some [Value.int .i64 (w : Nat)]])).keep hk6 (Ne.symm hne)
  replace hl7 : H5.length + 2 ≤ H6.length ∧ H6.length ≤ H5.length + 2 := by omega
  have hx07 := hx5.trans hx7
  (try simp only [ctlB])
  ((first | refine xSQi ?_ | refine xOQi rfl ?_); (try simp only [ctlB]))
  refine aw_midX (fun S' H' => ∃ t : Bool, H' = H6 ++ [some [.bool t]] ∧ ∃ (z : Nat → Value), S' = [.slice aw lw.length cw, .slice ae le.length ce, z 2, z 3, z 4, .int .i64 (1 + (v1 : Nat)), .int .i64 (1 + (l1 : Nat)), .slice ap b.all cp', z 8, .pointer (some ⟨H4.length, 0, none⟩), v10', z 11, .int .i64 (k : Nat), z 13, z 14, z 15, z 16, z 17, z 18, z 19, z 20, z 21, z 22, z 23, z 24, z 25, z 26, z 27, v11, .slice (some ⟨H6.length, 0, none⟩) 1 1, z 30, z 31, z 32, z 33, z 34, z 35]) ?_ ?_
  ·by_cases hk2 : k < le.length
   ·obtain ⟨xb, xo, xsp, xc, xs, e1, gx, fx, _⟩ := (he.mono hx07).els false (by omega)
    cases e1
    have kx := fx k hk2
    have hdec : decide (((k : Nat) : Int) < ((le.length : Nat) : Int)) = true := decide_eq_true (by omega)
    clear fx
    repeat' ((first | refine xSQi ?_ | refine xOQi rfl ?_); (try simp only [ctlB]))
    exact ⟨_, rfl, exZGc  rfl⟩
   ·have hdec : decide (((k : Nat) : Int) < ((le.length : Nat) : Int)) = false := decide_eq_false (by omega)
    repeat' ((first | refine xSQi ?_ | refine xOQi rfl ?_); (try simp only [ctlB]))
    exact ⟨_, rfl, exZGc  rfl⟩
  rintro S' _ ⟨tb, rfl, z,  rfl⟩
  (try simp only [ctlB])
  refine xHQi ?_
  refine wpH_app (b := b11) (cells := boolL el) (c' := [.bool tb]) (c := [.bool tb]) ((o11.mono (Ext.app _ _)).lower (by omega)) (by simp; omega) (by omega) (by omega) (by rw [boolL_len]; omega) get_app0 (by simp) rfl rfl ?_
  rw [show boolL el ++ [Value.bool tb] = boolL (el ++ [tb]) by rw [boolL_app]; rfl]
  intro v11' H7 o11' hk8 hl8
  replace hl8 : H7.length = H6.length + 2 := by simpa using hl8
  have hx8 := hk8.ext (hx7.trans (Ext.app H6 _)) o11.1
  have o11' : Own G4.length 1 H7 v11' (H6.length + 1) (boolL (el ++ [tb])) := ⟨by omega, by simpa using o11'.2⟩
  have o10 := (o10'.mono (Ext.app H6 [some [Value.bool tb]])).keep hk8 (by omega)
  replace hl8 : H6.length + 2 ≤ H7.length ∧ H7.length ≤ H6.length + 2 := by omega
  have hby' : ∀ i, i < k + 1 → 0 ≤ (rl ++ [((w : Nat) : Int)]).getD i 0 ∧ (rl ++ [((w : Nat) : Int)]).getD i 0 ≤ 255 := fun i hi => by
   by_cases e : i < rl.length
   ·rw [getD_snoc_lt e]; exact hby i (by omega)
   ·rw [getD_snoc_eq (by omega)]; omega
  (try simp only [ctlB])
  repeat' ((first | refine xSQi ?_ | refine xOQi rfl ?_); (try simp only [ctlB]))
  exact ⟨hx8, v10', v11', _, _, _, _, o10, o11', by omega, by omega, by simp [lr], by simp [lE], hby', exZGc  (by first | rfl | (simp only [Int.natCast_add, Int.natCast_one]; rfl) | simp only [Int.natCast_add, Int.natCast_one])⟩
 ·rintro S H5 ⟨hx6, v10, v11, b10, b11, rl, el, o10, o11, hne, -, lr, lE, hby, z,  rfl⟩
  obtain ⟨rfl, g10⟩ := own_realI o10 (by omega)
  obtain ⟨rfl, g11⟩ := own_realB o11 (by omega)
  have hx06 := hx5.trans hx6
  have hl6 := hx06.1
  have g0 := hx6.get g0
  have hr0 : SlI H5 (.slice (some ⟨b10, 0, some 1⟩) rl.length rl.length) rl := Sl.whole g10 rfl
  have he0 : SlB H5 (.slice (some ⟨b11, 0, some 1⟩) el.length el.length) el := Sl.whole g11 rfl
  rw [lr] at hr0
  rw [lE] at he0
  simp only [lr, lE]
  have hp0 := hp0.mono hx6
  have hrd : Rd b rl fun i => el.getD i false := fun i hi _ => hby i hi
  clear o10 o11 hne hby
  (try simp only [ctlB])
  refine xHQi ?_
  refine wpH_call0 (hDe hr0 he0 (by omega) (by omega) hl6) ?_
  rintro r H6 ⟨hx7, -, -, hbad, hgood⟩
  have hbad := hbad (by omega) hrd
  have hgood := hgood (by omega) hrd
  by_cases hok : ∀ x, x < b.n → OkX b rl (fun i => el.getD i false) x
  case neg =>
   rw [hbad hok]
   clear hbad hgood
   have hx7 := hx06.trans hx7
   have hl7 := hx7.1
   unfold tup3 nl
   (try simp only [ctlB])
   repeat' ((first | refine xSQi ?_ | refine xOQi rfl ?_); (try simp only [ctlB]))
   refine xCQi (fun h => ?_) (fun h => ?_)
   case refine_2 => simp at h
   clear h
   (try simp only [ctlB])
   refine xTQza ?_
   refine wpH_call0 (exH hl7) ?_
   rintro r H9 ⟨-, rfl⟩
   (try simp only [ctlB])
   repeat' ((first | refine xSQi ?_ | refine xOQi rfl ?_); (try simp only [ctlB]))
   refine xRQi ?_
   rfl
  obtain ⟨vr, rfl, hvr⟩ := hgood hok
  clear hbad hgood hDe
  have hx8 := hx06.trans hx7
  have hl8 := hx8.1
  have g0 := hx7.get g0
  have g10 := hx7.get g10
  have g11 := hx7.get g11
  have hp0 := hp0.mono hx7
  obtain ⟨d, hdv, hdl, hdi⟩ := enc_fx hb hok
  rw [← hdv] at hvr
  clear hdv
  have hvr0 := hvr
  obtain ⟨a14, c14, e0⟩ := hvr.len
  subst e0
  unfold tup3
  (try simp only [ctlB])
  repeat' ((first | refine xSQi ?_ | refine xOQi rfl ?_); (try simp only [ctlB]))
  refine xCQi (fun h => ?_) (fun h => ?_)
  ·simp at h
  clear h
  (try simp only [ctlB])
  refine xHQi ?_
  refine wpH_call0 (hEn hvr0 (by rw [valI_len]; omega) hl8) ?_
  rintro r H7 ⟨hx9, -, -, hen⟩
  obtain ⟨vo, rfl, hvo, -, hie⟩ := hen d rfl hdl
  have hWe : ∀ x, x < b.n → b.W d x = fxX b rl (fun i => el.getD i false) x := fun x hx => (encW_of (cdok5 hb.ck (by omega)) (hdi x hx)).symm
  rw [wv_congr hWe] at hvo
  have hcost : ∀ x, x < b.n → costX b rl (b.wv (fxX b rl (fun i => el.getD i false))) (fun i => el.getD i false) x ≤ b.ck := fun x hx => detX hx hrd (hok x hx)
  have hwl2 := wv_len b (fxX b rl (fun i => el.getD i false))
  generalize b.wv (fxX b rl (fun i => el.getD i false)) = rt at *
  have hx10 := hx8.trans hx9
  have hl10 := hx10.1
  have g0 := hx9.get g0
  have g10 := hx9.get g10
  have g11 := hx9.get g11
  have hp0 := hp0.mono hx9
  have hvo0 := hvo.sli
  obtain ⟨ao, co', e0⟩ := hvo.len
  rw [hwl2] at e0
  subst e0
  clear hen hEn hie hdi hok hrd hvo hvr hvr0 hWe
  obtain ⟨pb, psp, pc, ep, gp⟩ := hp0.els (by omega)
  rw [hpll] at ep
  cases ep
  obtain ⟨rb, ro, rsp, rc, rs, er', gr, fr, _⟩ := hvo0.els 0 (by omega)
  rw [hwl2] at er' fr
  cases er'
  have hpt := fun i (h : i < b.all) => ptL_at (l := b.plI) (i := i) (by omega)
  have hgi := intL_len rl
  have hgb := boolL_len el
  rw [lr] at hgi
  rw [lE] at hgb
  (try simp only [ctlB])
  repeat' ((first | refine xSQi ?_ | refine xOQi rfl ?_); (try simp only [ctlB]))
  refine xCQi (fun h => ?_) (fun h => ?_)
  ·simp at h
  clear h
  (try simp only [ctlB])
  repeat' ((first | refine xSQi ?_ | refine xOQi rfl ?_); (try simp only [ctlB]))
  refine aw_for (fun x S H' => H7 = H' ∧ ∃ (z : Nat → Value), S = [z 0, z 1, z 2, z 3, z 4, z 5, z 6, .slice (some ⟨pb, 0, psp⟩) b.all cp', z 8, .pointer (some ⟨H4.length, 0, none⟩), .slice (some ⟨b10, 0, some 1⟩) b.all b.all, .slice (some ⟨b11, 0, some 1⟩) b.all b.all, z 12, z 13, z 14, z 15, .slice (some ⟨rb, ro, rsp⟩) b.all co', z 17, .int .i64 (x : Nat), z 19, z 20, z 21, z 22, z 23, z 24, z 25, z 26, z 27, z 28, z 29, z 30, z 31, z 32, z 33, z 34, z 35]) b.n ?_ ?_ ?_ ?_
  ·exact ⟨rfl, exZGc  rfl⟩
  ·rintro x S H' hx ⟨rfl, z,  rfl⟩
   exact ⟨_, by simp (disch := first | omega | (simp only [lenB]; omega)) only [evB, xBQi, Nat.reduceAdd, Nat.reduceBEq, *]; rfl, by simp⟩
  ·rintro x S H' hx ⟨rfl, z,  rfl⟩
   have hcx := hcost x hx
   rw [← pcost_all] at hcx
   clear hcost
   (try simp only [ctlB])
   repeat' ((first | refine xSQi ?_ | refine xOQi rfl ?_); (try simp only [ctlB]))
   refine aw_for (fun k S H' => H7 = H' ∧ ∃ (z : Nat → Value), S = [z 0, z 1, z 2, z 3, z 4, z 5, z 6, .slice (some ⟨pb, 0, psp⟩) b.all cp', z 8, .pointer (some ⟨H4.length, 0, none⟩), .slice (some ⟨b10, 0, some 1⟩) b.all b.all, .slice (some ⟨b11, 0, some 1⟩) b.all b.all, z 12, z 13, z 14, z 15, .slice (some ⟨rb, ro, rsp⟩) b.all co', z 17, .int .i64 (x : Nat), .int .i64 (pcost b rl rt (fun i => el.getD i false) x k : Nat), .int .i64 (k : Nat), z 21, z 22, z 23, z 24, z 25, z 26, z 27, z 28, z 29, z 30, z 31, z 32, z 33, z 34, z 35]) b.all ?_ ?_ ?_ ?_
   ·exact ⟨rfl, exZGc  rfl⟩
   ·rintro k S H' hk ⟨rfl, z,  rfl⟩
    exact ⟨_, by simp (disch := first | omega | (simp only [lenB]; omega)) only [evB, xBQi, Nat.reduceAdd, Nat.reduceBEq, *]; rfl, by simp⟩
   ·rintro k S H' hk ⟨rfl, z,  rfl⟩
    obtain ⟨t1, -⟩ := hpt k hk
    rw [b.plI_at hk] at t1
    simp only at t1
    have hps := pcost_succ b rl rt (fun i => el.getD i false) x k
    have hpl := pcost_le b rl rt (fun i => el.getD i false) x k
    have fk := fr k hk
    have r1 := intL_at (l := rl) (i := k) (by omega)
    have r2 := boolL_at (l := el) (i := k) (by omega)
    clear hpt fr hcx
    generalize ptL b.plI = PL at *
    generalize pcost b rl rt (fun i => el.getD i false) x (k + 1) = pc1 at *
    generalize pcost b rl rt (fun i => el.getD i false) x k = pc0 at *
    generalize (b.at k).1 = X at *
    generalize rl.getD k 0 = y1 at *
    generalize rt.getD k 0 = y2 at *
    generalize el.getD k false = tk at *
    generalize intL rl = IL at *
    generalize boolL el = BL at *
    subst hps
    by_cases hX : X = x
    ·subst hX
     simp only [if_true]
     cases tk with
     | true =>
      (try simp only [ctlB])
      refine xCQi (fun h => ?_) (fun h => ?_)
      case refine_2 => simp at h
      clear h
      (try simp only [ctlB])
      repeat' ((first | refine xSQi ?_ | refine xOQi rfl ?_); (try simp only [ctlB]))
      exact ⟨by trivial, exZGc  (by first | rfl | (simp only [Int.natCast_add, Int.natCast_one]; rfl) | simp only [Int.natCast_add, Int.natCast_one])⟩
     | false =>
      (try simp only [ctlB])
      refine xCQi (fun h => ?_) (fun h => ?_)
      ·simp at h
      clear h
      by_cases hne : y1 ≠ y2
      ·simp only [if_pos hne]
       (try simp only [ctlB])
       refine xCQi (fun h => ?_) (fun h => ?_)
       case refine_2 => simp at h <;> omega
       clear h
       (try simp only [ctlB])
       repeat' ((first | refine xSQi ?_ | refine xOQi rfl ?_); (try simp only [ctlB]))
       exact ⟨by trivial, exZGc  (by first | rfl | (simp only [Int.natCast_add, Int.natCast_one]; rfl) | simp only [Int.natCast_add, Int.natCast_one])⟩
      ·simp only [if_neg hne]
       (try simp only [ctlB])
       refine xCQi (fun h => ?_) (fun h => ?_)
       ·simp at h <;> omega
       clear h
       (try simp only [ctlB])
       repeat' ((first | refine xSQi ?_ | refine xOQi rfl ?_); (try simp only [ctlB]))
       exact ⟨by trivial, exZGc  (by first | rfl | (simp only [Int.natCast_add, Int.natCast_one]; rfl) | simp only [Int.natCast_add, Int.natCast_one])⟩
    ·simp only [if_neg hX]
     have hXd : decide (((X : Nat) : Int) = ((x : Nat) : Int)) = false := decide_eq_false (by omega)
     (try simp only [ctlB])
     refine xCQi (fun h => ?_) (fun h => ?_)
     ·simp at h
     clear h
     (try simp only [ctlB])
     refine xCQi (fun h => ?_) (fun h => ?_)
     ·simp at h
     clear h
     (try simp only [ctlB])
     repeat' ((first | refine xSQi ?_ | refine xOQi rfl ?_); (try simp only [ctlB]))
     exact ⟨by trivial, exZGc  (by first | rfl | (simp only [Int.natCast_add, Int.natCast_one]; rfl) | simp only [Int.natCast_add, Int.natCast_one])⟩
   ·rintro S H' ⟨rfl, z,  rfl⟩
    (try simp only [ctlB])
    refine xCQi (fun h => ?_) (fun h => ?_)
    ·exfalso; simp only [decide_eq_true_eq] at h; omega
    clear h
    (try simp only [ctlB])
    repeat' ((first | refine xSQi ?_ | refine xOQi rfl ?_); (try simp only [ctlB]))
    exact ⟨by trivial, exZGc  (by first | rfl | (simp only [Int.natCast_add, Int.natCast_one]; rfl) | simp only [Int.natCast_add, Int.natCast_one])⟩
  ·rintro S H' ⟨rfl, z,  rfl⟩
   (try simp only [ctlB])
   refine xHQi ?_
   refine wpH_call0 (exH hl10) ?_
   rintro r H9 ⟨-, rfl⟩
   (try simp only [ctlB])
   repeat' ((first | refine xSQi ?_ | refine xOQi rfl ?_); (try simp only [ctlB]))
   refine xRQi ?_
   rfl
end
end Go.Proofs.Ytkeagffmmhllcaa
