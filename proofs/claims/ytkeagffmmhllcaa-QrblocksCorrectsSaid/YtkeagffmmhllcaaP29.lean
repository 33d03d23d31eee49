/- QR blocks: what is spoilt (the costs). QR blocks: spoil of the laws. QR blocks: spoil of the laws (the copies). QR blocks: the law Corrects. -/
import Derived.Test.YtkeagffmmhllcaaP28
set_option linter.unusedVariables false
set_option linter.unusedSimpArgs false
set_option linter.unusedSectionVars false
namespace Go.Proofs.Ytkeagffmmhllcaa
open Go.Abs Go.RS
set_option linter.unusedSimpArgs false
set_option linter.unusedVariables false
theorem cntX_add {b : Bk} {x k : Nat} {φ : Nat → Bool} (hk : k < b.all) (hφ : φ k = false) : cntX b x (fun i => φ i || decide (i = k)) = cntX b x φ + if (b.at k).1 = x then 1 else 0 := by
 unfold cntX
 rw [← List.countP_eq_length_filter, ← List.countP_eq_length_filter]
 have key : ∀ n, List.countP (fun i => decide ((b.at i).1 = x) && (φ i || decide (i = k))) (List.range n) = List.countP (fun i => decide ((b.at i).1 = x) && φ i) (List.range n) + if k < n ∧ (b.at k).1 = x then 1 else 0 := by
  intro n
  induction n with
  | zero => simp
  | succ n ih =>
   rw [List.range_succ, List.countP_append, List.countP_append, ih, List.countP_singleton, List.countP_singleton]
   by_cases e : n = k
   ·subst e
    rw [hφ]
    by_cases h : (b.at n).1 = x <;> simp [h]
   ·have e2 : (k < n + 1 ∧ (b.at k).1 = x) ↔ (k < n ∧ (b.at k).1 = x) := by constructor <;> (rintro ⟨h1, h2⟩; exact ⟨by omega, h2⟩)
    simp only [e2, decide_eq_false e, Bool.or_false]
    omega
 rw [key]
 simp [hk]
def tcost (b : Bk) (tl el : List Bool) (x : Nat) : Nat := 2 * cntX b x (fun i => tl.getD i false && !el.getD i false) + cntX b x (fun i => tl.getD i false && el.getD i false)
structure SpI (b : Bk) (wl out : List Int) (el : List Bool) (us : List Int) (tl : List Bool) : Prop where
 lo : out.length = b.all
 le : el.length = b.all
 lu : us.length = b.all
 lt : tl.length = b.all
 un : ∀ i, i < b.all → tl.getD i false = false → out.getD i 0 = wl.getD i 0 ∧ el.getD i false = false
 by' : ∀ i, i < b.all → 0 ≤ out.getD i 0 ∧ out.getD i 0 ≤ 255
 us' : ∀ x, x < b.n → us.getD x 0 = ((tcost b tl el x : Nat) : Int) ∧ tcost b tl el x ≤ b.ck
theorem getD_setE {α : Type} {l : List α} {i j : Nat} {v d : α} (h : i < l.length) : (l.set i v).getD j d = if j = i then v else l.getD j d := by
 rw [List.getD_eq_getElem?_getD, List.getElem?_set]
 by_cases e : j = i
 ·rw [if_pos e.symm, if_pos h, if_pos e]; rfl
 ·rw [if_neg (Ne.symm e), if_neg e, ← List.getD_eq_getElem?_getD]
theorem getD_rep {α : Type} {n i : Nat} {a : α} : (List.replicate n a).getD i a = a := by
 rw [List.getD_eq_getElem?_getD, List.getElem?_replicate]
 split <;> rfl
theorem SpI.start {b : Bk} {wl : List Int} (hb : b.n ≤ b.all) (hl : wl.length = b.all) (hr : ∀ i, i < b.all → 0 ≤ wl.getD i 0 ∧ wl.getD i 0 ≤ 255) : SpI b wl wl (List.replicate b.all false) (List.replicate b.all 0) (List.replicate b.all false) := by
 refine ⟨hl, by simp, by simp, by simp, fun i _ _ => ⟨rfl, getD_rep⟩, hr, fun x hx => ?_⟩
 have h1 : tcost b (List.replicate b.all false) (List.replicate b.all false) x = 0 := by
  have h0 : ∀ φ : Nat → Bool, (∀ i, φ i = false) → cntX b x φ = 0 := fun φ h => by
   unfold cntX
   rw [List.filter_eq_nil_iff.2 (fun i _ => by rw [h i]; simp)]; rfl
  unfold tcost
  rw [h0 _ (fun i => by rw [getD_rep]; rfl), h0 _ (fun i => by rw [getD_rep]; rfl)]
 rw [h1, getD_rep]; exact ⟨rfl, Nat.zero_le _⟩
theorem SpI.step {b : Bk} {wl out us : List Int} {el tl : List Bool} {k : Nat} {y : Int} {lost : Bool} (hb : b.n ≤ b.all) (h : SpI b wl out el us tl) (hk : k < b.all) (ht : tl.getD k false = false) (hy : 0 ≤ y ∧ y ≤ 255) (hc : us.getD (b.at k).1 0 + (if lost = true then 1 else 2) ≤ (b.ck : Nat)) :
  SpI b wl (out.set k y) (el.set k lost) (us.set (b.at k).1 (us.getD (b.at k).1 0 + (if lost = true then 1 else 2))) (tl.set k true) := by
 obtain ⟨h1, h2, h3, h4, h5, h6, h7⟩ := h
 obtain ⟨hX, _⟩ := b.at_in hk
 have htl : ∀ i, (tl.set k true).getD i false = (tl.getD i false || decide (i = k)) := fun i => by
  rw [getD_setE (by omega)]
  by_cases e : i = k <;> simp [e]
 have hel : ∀ i, (el.set k lost).getD i false = if i = k then lost else el.getD i false := fun i => getD_setE (by omega)
 have hek := (h5 k hk ht).2
 have hcost : ∀ x, tcost b (tl.set k true) (el.set k lost) x = tcost b tl el x + if (b.at k).1 = x then (if lost = true then 1 else 2) else 0 := by
  intro x
  unfold tcost
  cases lost with
  | true =>
   have e1 : cntX b x (fun i => (tl.set k true).getD i false && !(el.set k true).getD i false) = cntX b x (fun i => tl.getD i false && !el.getD i false) := cntX_congr fun i _ _ => by
    rw [htl, hel]
    by_cases e : i = k
    ·subst e; rw [ht]; simp
    ·simp [e]
   have e2 : cntX b x (fun i => (tl.set k true).getD i false && (el.set k true).getD i false) = cntX b x (fun i => (tl.getD i false && el.getD i false) || decide (i = k)) := cntX_congr fun i _ _ => by
    rw [htl, hel]
    by_cases e : i = k
    ·subst e; simp
    ·simp [e]
   rw [e1, e2, cntX_add hk (by rw [ht]; rfl)]
   simp only [if_true]
   omega
  | false =>
   have e1 : cntX b x (fun i => (tl.set k true).getD i false && !(el.set k false).getD i false) = cntX b x (fun i => (tl.getD i false && !el.getD i false) || decide (i = k)) := cntX_congr fun i _ _ => by
    rw [htl, hel]
    by_cases e : i = k
    ·subst e; simp
    ·simp [e]
   have e2 : cntX b x (fun i => (tl.set k true).getD i false && (el.set k false).getD i false) = cntX b x (fun i => tl.getD i false && el.getD i false) := cntX_congr fun i _ _ => by
    rw [htl, hel]
    by_cases e : i = k
    ·subst e; rw [ht]; simp
    ·simp [e]
   rw [e1, e2, cntX_add hk (by rw [ht]; rfl)]
   simp only [Bool.false_eq_true, if_false]
   split <;> omega
 refine ⟨by simpa using h1, by simpa using h2, by simpa using h3, by simpa using h4, fun i hi hti => ?_, fun i hi => ?_, fun x hx => ?_⟩
 ·rw [htl] at hti
  simp only [Bool.or_eq_false_iff, decide_eq_false_iff_not] at hti
  rw [getD_setE (by omega), hel, if_neg hti.2, if_neg hti.2]
  exact h5 i hi hti.1
 ·rw [getD_setE (by omega)]
  split
  ·exact hy
  ·exact h6 i hi
 ·obtain ⟨u1, u2⟩ := h7 x hx
  rw [getD_setE (by omega), hcost]
  by_cases e : x = (b.at k).1
  ·subst e
   rw [if_pos rfl, if_pos rfl]
   cases lost <;> simp only [Bool.false_eq_true, if_true, if_false] at hc ⊢ <;> omega
  ·rw [if_neg e, if_neg (Ne.symm e), Nat.add_zero]
   exact ⟨u1, u2⟩
theorem SpI.cost {b : Bk} {wl out us : List Int} {el tl : List Bool} (h : SpI b wl out el us tl) {x : Nat} (hx : x < b.n) : costX b out wl (fun i => el.getD i false) x ≤ b.ck := by
 have h7 := (h.us' x hx).2
 unfold tcost at h7
 show 2 * cntX b x (fun i => !el.getD i false && decide (out.getD i 0 ≠ wl.getD i 0)) + cntX b x (fun i => el.getD i false) ≤ b.ck
 have e1 : cntX b x (fun i => !el.getD i false && decide (out.getD i 0 ≠ wl.getD i 0)) ≤ cntX b x (fun i => tl.getD i false && !el.getD i false) := cntX_le fun i hi hp => by
  simp only [Bool.and_eq_true, Bool.not_eq_true', decide_eq_true_eq] at hp ⊢
  refine ⟨?_, hp.1⟩
  cases ht : tl.getD i false with
  | true => rfl
  | false => exact absurd (h.un i hi ht).1 hp.2
 have e2 : cntX b x (fun i => el.getD i false) ≤ cntX b x (fun i => tl.getD i false && el.getD i false) := cntX_le fun i hi hp => by
  simp only [Bool.and_eq_true]
  refine ⟨?_, hp⟩
  cases ht : tl.getD i false with
  | true => rfl
  | false => rw [(h.un i hi ht).2] at hp; cases hp
 omega
end Go.Proofs.Ytkeagffmmhllcaa
namespace Go.Proofs.Ytkeagffmmhllcaa
open Go.Abs Go.RS
set_option linter.unusedSimpArgs false
set_option linter.unusedVariables false
set_option maxRecDepth 20000
theorem own_appB {cp : FuncId → Option CF} {lo base : Nat} {z : List Value} {H : Heap} {v w : Value} {b : Nat} {A l : List Bool} {R : Value → Heap → Prop} (ho : Own base 1 H v b (boolL A)) (hlo : lo ≤ base) (hbl : base ≤ H.length) (hl : SlB H w l) (hne : 0 < l.length) (hbig : A.length + l.length ≤ 4294967296)
  (k : ∀ v' H', Own base 1 H' v' H.length (boolL (A ++ l)) → Keep b H H' → H'.length = H.length + 1 → R v' H') : wpH cp lo (.app 1 z) [v, w] H R := by
 rcases hl with ⟨rfl, rfl⟩ | ⟨b', o, sp, cap, xs, rfl, h2, h3, h4, h5⟩
 ·simp at hne
 ·refine wpH_app (b := b) (cells := boolL A) (c := boolL l) (ho.lower hlo) (by omega) (by omega) hne (by rw [boolL_len]; omega) h2 (by omega) (by rw [Nat.mul_one, h3]; rfl) (boolL_one' l) ?_
  intro v' H' a1 a2 a3
  refine k v' H' ⟨hbl, ?_⟩ a2 a3
  rw [boolL_app]; exact a1.2
def SpH (b8 b9 b10 b12 : Nat) (H : Heap) (out : List Int) (el : List Bool) (us : List Int) (tl : List Bool) : Prop := H.get b8 = some (intL out) ∧ H.get b9 = some (boolL el) ∧ H.get b10 = some (intL us) ∧ H.get b12 = some (boolL tl)
section
variable {lo : Nat} {H : Heap}
theorem set_self {α : Type} {l : List α} {i : Nat} {d : α} (h : i < l.length) : l.set i (l.getD i d) = l := by
 refine List.ext_getElem (by simp) fun j h1 h2 => ?_
 rw [List.getElem_set]
 split
 ·rename_i e; subst e; simp [List.getD_eq_getElem?_getD, h]
 ·rfl
set_option maxHeartbeats 2000000 in
theorem spoilB {b : Bk} {aw ap aA aY aE : Option Addr} {cw cq cA cY cE d4 b8 b9 b10 b12 m : Nat} {v0 v1 v2 : Value} {wl la lb : List Int} {le : List Bool} {H0 : Heap} {S : List Value} {R : Value → Heap → Prop} (hS : ∃ (z : Nat → Value), S = [.slice aw b.all cw, z 1, .slice ap b.all cq, .int .i64 (b.ck : Nat), .pointer (some ⟨d4, 0, none⟩), z 5, z 6, z 7, .slice (some ⟨b8, 0, some 1⟩) b.all b.all, .slice (some ⟨b9, 0, some 1⟩) b.all b.all, .slice (some ⟨b10, 0, some 1⟩) b.all b.all, z 11, .slice (some ⟨b12, 0, some 1⟩) b.all b.all, z 13, z 14, z 15, z 16, z 17, z 18, z 19, z 20, z 21, z 22, z 23, z 24, z 25, z 26, z 27]) (hb : b.Ok) (hpos : 0 < b.all) (hnn : b.n ≤ b.all)
  (hw : SlI H0 (.slice aw b.all cw) wl) (hwl : wl.length = b.all) (hwr : ∀ i, i < b.all → 0 ≤ wl.getD i 0 ∧ wl.getD i 0 ≤ 255) (hp : SlPt H0 (.slice ap b.all cq) b.plI) (g4 : H.get d4 = some [v0, v1, v2, .slice aA la.length cA, .slice aY lb.length cY, .slice aE le.length cE])
  (hA : Sl (Value.int .u16) H0 (.slice aA la.length cA) la) (hAr : ∀ x ∈ la, 0 ≤ x ∧ x ≤ 65535) (hAl : la.length ≤ 1000000) (hY : SlY H0 (.slice aY lb.length cY) lb) (hYr : ∀ x ∈ lb, 0 ≤ x ∧ x ≤ 255) (hYl : lb.length ≤ 9223372036854775807) (hE : SlB H0 (.slice aE le.length cE) le) (hEl : le.length ≤ 9223372036854775807)
  (hlo : lo ≤ m) (hm : m ≤ b8 ∧ m ≤ b9 ∧ m ≤ b10 ∧ m ≤ b12) (hd : b8 ≠ b9 ∧ b8 ≠ b10 ∧ b8 ≠ b12 ∧ b9 ≠ b10 ∧ b9 ≠ b12 ∧ b10 ≠ b12) (h4m : d4 < m) (h0m : H0.length ≤ m) (hx0 : Ext H0 H)
  (hh : SpH b8 b9 b10 b12 H wl (List.replicate b.all false) (List.replicate b.all 0) (List.replicate b.all false))
  (hR : ∀ v H' out el us tl, Low m H H' → SpI b wl out el us tl → SlI H' (.slice (some ⟨b8, 0, some 1⟩) b.all b.all) out → SlB H' (.slice (some ⟨b9, 0, some 1⟩) b.all b.all) el → v = .tuple #[.slice (some ⟨b8, 0, some 1⟩) b.all b.all, .slice (some ⟨b9, 0, some 1⟩) b.all b.all, .int .i64 (chg out wl b.all : Nat)] → R v H') :
  wpS cp lo (tl 8 bd17) (bodyQ cf17 R) S H := by
 obtain ⟨z, rfl⟩ := hS
 unfold bd17 cf17
 simp only [tl, kB, ctlB]
 have h7 := hb.all
 have hck := hb.ck2
 have hpll : b.plI.length = b.all := by unfold Bk.plI; rw [List.length_map, b.pl_len]
 have l4 := Heap.get_lt g4
 obtain ⟨m8, m9, m10, m12⟩ := hm
 obtain ⟨d1, d2, d3, d4', d5, d6⟩ := hd
 repeat' ((first | refine xSQd ?_ | refine xOQd rfl ?_); (try simp only [ctlB]))
 refine aw_for (fun i S H' => Low m H H' ∧ (∃ out el us tl, SpI b wl out el us tl ∧ SpH b8 b9 b10 b12 H' out el us tl) ∧ ∃ (z : Nat → Value), S = [.slice aw b.all cw, z 1, .slice ap b.all cq, .int .i64 (b.ck : Nat), .pointer (some ⟨d4, 0, none⟩), z 5, z 6, z 7, .slice (some ⟨b8, 0, some 1⟩) b.all b.all, .slice (some ⟨b9, 0, some 1⟩) b.all b.all, .slice (some ⟨b10, 0, some 1⟩) b.all b.all, z 11, .slice (some ⟨b12, 0, some 1⟩) b.all b.all, .int .i64 (i : Nat), z 14, z 15, z 16, z 17, z 18, z 19, z 20, z 21, z 22, z 23, z 24, z 25, z 26, z 27]) la.length ?_ ?_ ?_ ?_
 ·exact ⟨Low.ext (Ext.refl _), ⟨_, _, _, _, SpI.start hnn hwl hwr, hh⟩, exZGc  rfl⟩
 ·rintro i S H' hi ⟨low, -, z,  rfl⟩
  have g4 := (low.2 _ h4m (by omega)).trans g4
  exact ⟨_, by simp (disch := first | omega | (simp only [lenB]; omega)) only [evB, xBQd, Nat.reduceAdd, Nat.reduceBEq, *]; rfl, by simp; omega⟩
 ·clear hh
  rintro i S H1 hi ⟨low, ⟨out, el, us, tl, hsp, g8, g9, g10, g12⟩, z,  rfl⟩
  have hx1 := Low.toExt hx0 low h0m
  have hl1 := low.1
  have g4' := (low.2 _ h4m (by omega)).trans g4
  have l8 := Heap.get_lt g8
  have l9 := Heap.get_lt g9
  have l10 := Heap.get_lt g10
  have l12 := Heap.get_lt g12
  obtain ⟨xb, xo, xsp, xc, xs, e1, gx, fx, _⟩ := (hA.mono hx1).els 0 (by omega)
  cases e1
  have kx := fx i hi
  have hm := hAr (la.getD i 0) (by rw [List.getD_eq_getElem?_getD, List.getElem?_eq_getElem hi]; exact List.getElem_mem hi)
  obtain ⟨q, hq⟩ : ∃ q : Nat, la.getD i 0 = (q : Int) := ⟨_, (Int.toNat_of_nonneg hm.1).symm⟩
  rw [hq] at kx hm
  have q1 := (Int.ofNat_tmod q b.all).symm
  have hk : q % b.all < b.all := Nat.mod_lt _ hpos
  clear fx hq
  generalize q % b.all = k at *
  (try simp only [ctlB])
  ((first | refine xSQd ?_ | refine xOQd rfl ?_); (try simp only [ctlB]))
  clear kx q1 gx
  refine aw_midX (fun S' H' => H1 = H' ∧ ∃ (z : Nat → Value), S' = [.slice aw b.all cw, z 1, .slice ap b.all cq, .int .i64 (b.ck : Nat), .pointer (some ⟨d4, 0, none⟩), z 5, z 6, z 7, .slice (some ⟨b8, 0, some 1⟩) b.all b.all, .slice (some ⟨b9, 0, some 1⟩) b.all b.all, .slice (some ⟨b10, 0, some 1⟩) b.all b.all, z 11, .slice (some ⟨b12, 0, some 1⟩) b.all b.all, .int .i64 (i : Nat), .int .i64 (k : Nat), .bool (le.getD i false), z 16, z 17, z 18, z 19, z 20, z 21, z 22, z 23, z 24, z 25, z 26, z 27]) ?_ ?_
  ·by_cases hi2 : i < le.length
   ·obtain ⟨yb, yo, ysp, yc, ys, e2, gy, fy, _⟩ := (hE.mono hx1).els false (by omega)
    cases e2
    have ky := fy i hi2
    clear fy
    have hdec : decide (((i : Nat) : Int) < ((le.length : Nat) : Int)) = true := decide_eq_true (by omega)
    repeat' ((first | refine xSQd ?_ | refine xOQd rfl ?_); (try simp only [ctlB]))
    exact ⟨by trivial, exZGc  rfl⟩
   ·have hle : le.getD i false = false := by rw [List.getD_eq_getElem?_getD, List.getElem?_eq_none (by omega)]; rfl
    have hdec : decide (((i : Nat) : Int) < ((le.length : Nat) : Int)) = false := decide_eq_false (by omega)
    rw [hle]
    repeat' ((first | refine xSQd ?_ | refine xOQd rfl ?_); (try simp only [ctlB]))
    exact ⟨by trivial, exZGc  rfl⟩
  rintro S' _ ⟨rfl, z,  rfl⟩
  generalize le.getD i false = lost at *
  (try simp only [ctlB])
  ((first | refine xSQd ?_ | refine xOQd rfl ?_); (try simp only [ctlB]))
  refine aw_midX (fun S' H' => H1 = H' ∧ ∃ (z : Nat → Value), S' = [.slice aw b.all cw, z 1, .slice ap b.all cq, .int .i64 (b.ck : Nat), .pointer (some ⟨d4, 0, none⟩), z 5, z 6, z 7, .slice (some ⟨b8, 0, some 1⟩) b.all b.all, .slice (some ⟨b9, 0, some 1⟩) b.all b.all, .slice (some ⟨b10, 0, some 1⟩) b.all b.all, z 11, .slice (some ⟨b12, 0, some 1⟩) b.all b.all, .int .i64 (i : Nat), .int .i64 (k : Nat), .bool lost, .int .i64 (if lost = true then 1 else 2), z 17, z 18, z 19, z 20, z 21, z 22, z 23, z 24, z 25, z 26, z 27]) ?_ ?_
  ·cases lost with
   | true =>
    refine xCQd (fun h => ?_) (fun h => ?_)
    case refine_2 => cases h
    clear h
    (try simp only [ctlB])
    repeat' ((first | refine xSQd ?_ | refine xOQd rfl ?_); (try simp only [ctlB]))
    exact ⟨by trivial, exZGc  rfl⟩
   | false =>
    refine xCQd (fun h => ?_) (fun h => ?_)
    ·cases h
    clear h
    (try simp only [ctlB])
    exact ⟨by trivial, exZGc  rfl⟩
  rintro S' _ ⟨rfl, z,  rfl⟩
  have hcb : (1 : Int) ≤ (if lost = true then 1 else 2) ∧ (if lost = true then (1 : Int) else 2) ≤ 2 := by split <;> omega
  obtain ⟨hX, hY⟩ := b.at_in hk
  have hpt := b.plI_at hk
  obtain ⟨pb, psp, pc, ep, gp⟩ := (hp.mono hx1).els (by omega)
  rw [hpll] at ep
  cases ep
  obtain ⟨p1, -⟩ := ptL_at (l := b.plI) (i := k) (by omega)
  rw [hpt] at p1
  simp only at p1
  clear hpt
  generalize ptL b.plI = PL at *
  have hlen8 := hsp.lo
  have hlen9 := hsp.le
  have hlen10 := hsp.lu
  have hlen12 := hsp.lt
  have husx := hsp.us' _ hX
  have hstep := fun y hy ht hc => SpI.step (y := y) (lost := lost) hnn hsp hk ht hy hc
  have hby := hsp.by' k hk
  generalize hcst : (if lost = true then (1 : Int) else 2) = cost at *
  have hset0 := set_self (l := out) (i := k) (d := 0) (by omega)
  obtain ⟨o, ho⟩ : ∃ o : Nat, out.getD k 0 = (o : Int) := ⟨_, (Int.toNat_of_nonneg hby.1).symm⟩
  rw [ho] at hby hset0
  have hend : ∀ (out' : List Int) (H' : Heap) (S' : List Value), SpI b wl out' (el.set k lost) (us.set (b.at k).1 (us.getD (b.at k).1 0 + cost)) (tl.set k true) → Keep b8 ((((H1.set b12 (some (boolL (tl.set k true)))).set b10 (some (intL (us.set (b.at k).1 (us.getD (b.at k).1 0 + cost))))).set b9 (some (boolL (el.set k lost))))) H' → Heap.get H' b8 = some (intL out') → Low m H H' ∧ ∃ out el us tl, SpI b wl out el us tl ∧ SpH b8 b9 b10 b12 H' out el us tl := by
   intro out' H' S' hs hk8 h8
   refine ⟨Low.trans low ?_, _, _, _, _, hs, h8, hk8.get ?_ (Ne.symm d1), hk8.get ?_ (Ne.symm d2), hk8.get ?_ (Ne.symm d3)⟩
   ·refine Low.trans (Low.trans (Low.trans (Low.keep (keep_set (Ext.refl _) b12 _) m12) (Low.keep (keep_set (Ext.refl _) b10 _) m10)) (Low.keep (keep_set (Ext.refl _) b9 _) m9)) (Low.keep hk8 m8)
   ·rw [get_set_self (by simp; omega)]
   ·rw [get_set_ne d4', get_set_self (by simp; omega)]
   ·rw [get_set_ne d5, get_set_ne d6, get_set_self (by omega)]
  have hskip : Low m H H1 ∧ ∃ out el us tl, SpI b wl out el us tl ∧ SpH b8 b9 b10 b12 H1 out el us tl := ⟨low, _, _, _, _, hsp, g8, g9, g10, g12⟩
  have husn : 0 ≤ us.getD (b.at k).1 0 ∧ us.getD (b.at k).1 0 ≤ 30 := by omega
  have hXl : (b.at k).1 < b.all := by omega
  have hpb := Heap.get_lt gp
  clear hsp husx hcst hX hY
  generalize (b.at k).1 = X at *
  generalize hut : us.getD X 0 = ut at *
  generalize hU : us.set X (ut + cost) = us2 at *
  generalize htk : tl.getD k false = tk at *
  (try simp only [ctlB])
  ((first | refine xSQd ?_ | refine xOQd rfl ?_); (try simp only [ctlB]))
  by_cases hgo : tk = false ∧ ut + cost ≤ ((b.ck : Nat) : Int)
  case neg =>
   refine xCQd (fun h => ?_) (fun h => ?_)
   case refine_2 =>
    exfalso
    simp only [Bool.or_eq_false_iff, decide_eq_false_iff_not] at h
    exact hgo ⟨h.1, by omega⟩
   clear h
   (try simp only [ctlB])
   repeat' ((first | refine xSQd ?_ | refine xOQd rfl ?_); (try simp only [ctlB]))
   obtain ⟨k1, k2⟩ := hskip
   exact ⟨k1, k2, exZGc  (by first | rfl | (simp only [Int.natCast_add, Int.natCast_one]; rfl) | simp only [Int.natCast_add, Int.natCast_one])⟩
  obtain ⟨rfl, hck2⟩ := hgo
  refine xCQd (fun h => ?_) (fun h => ?_)
  ·exfalso; simp at h <;> omega
  clear h hskip
  have hUl : us2.length = b.all := by rw [← hU]; simp [hlen10]
  replace hU : False ∨ _ := .inr hU
  (try simp only [ctlB])
  repeat' ((first | refine xSQd ?_ | refine xOQd rfl ?_); (try simp only [ctlB]))
  rw [hut] at *
  by_cases hi3 : i < lb.length
  ·obtain ⟨yb, yo, ysp, yc, ys, e2, gy, fy, _⟩ := hY.els 0 (by omega)
   have hyb := Heap.get_lt gy
   have gy := hx1.get gy
   cases e2
   have ky := fy i hi3
   have hyr := hYr (lb.getD i 0) (by rw [List.getD_eq_getElem?_getD, List.getElem?_eq_getElem hi3]; exact List.getElem_mem hi3)
   obtain ⟨w, hw'⟩ : ∃ w : Nat, lb.getD i 0 = (w : Int) := ⟨_, (Int.toNat_of_nonneg hyr.1).symm⟩
   rw [hw'] at ky hyr
   clear fy hw'
   have hxr0 := xor_int (a := o) (b := w) (by omega) (by omega)
   have hxb : o ^^^ w < 256 := Nat.xor_lt_two_pow (n := 8) (by omega) (by omega)
   generalize o ^^^ w = n at *
   have hs := hstep ((n : Nat) : Int) (by omega) rfl hck2
   have hdec : decide (((i : Nat) : Int) < ((lb.length : Nat) : Int)) = true := decide_eq_true (by omega)
   try rw [hU.resolve_left id]
   refine xCQd (fun h => ?_) (fun h => ?_)
   case refine_2 => cases h
   clear h
   (try simp only [ctlB])
   repeat' ((first | refine xSQd ?_ | refine xOQd rfl ?_); (try simp only [ctlB]))
   try rw [hU.resolve_left id]
   obtain ⟨k1, k2⟩ := hend _ _ [] hs (keep_set (Ext.refl _) b8 (some (intL (out.set k ((n : Nat) : Int))))) (get_set_self (by simp; omega))
   exact ⟨k1, k2, exZGc  (by first | rfl | (simp only [Int.natCast_add, Int.natCast_one]; rfl) | simp only [Int.natCast_add, Int.natCast_one])⟩
  ·have hdec : decide (((i : Nat) : Int) < ((lb.length : Nat) : Int)) = false := decide_eq_false (by omega)
   have hs := hstep ((o : Nat) : Int) (by omega) rfl hck2
   rw [hset0] at hs
   try rw [hU.resolve_left id]
   refine xCQd (fun h => ?_) (fun h => ?_)
   ·cases h
   clear h
   (try simp only [ctlB])
   repeat' ((first | refine xSQd ?_ | refine xOQd rfl ?_); (try simp only [ctlB]))
   try rw [hU.resolve_left id]
   obtain ⟨k1, k2⟩ := hend _ _ [] hs (keep_ext (Ext.refl _)) (by rw [get_set_ne (Ne.symm d1), get_set_ne (Ne.symm d2), get_set_ne (Ne.symm d3)]; exact g8)
   exact ⟨k1, k2, exZGc  (by first | rfl | (simp only [Int.natCast_add, Int.natCast_one]; rfl) | simp only [Int.natCast_add, Int.natCast_one])⟩
 ·clear hh
  rintro S H1 ⟨low, ⟨out, el, us, tl, hsp, g8, g9, g10, g12⟩, z,  rfl⟩
  have hx1 := Low.toExt hx0 low h0m
  have hl1 := low.1
  have hlo8 := hsp.lo
  have hfin : ∀ v, v = .tuple #[.slice (some ⟨b8, 0, some 1⟩) b.all b.all, .slice (some ⟨b9, 0, some 1⟩) b.all b.all, .int .i64 (chg out wl b.all : Nat)] → R v H1 := fun v hv => hR v H1 out el us tl low hsp (Sl.whole g8 hsp.lo) (Sl.whole g9 hsp.le) hv
  clear hR hsp
  (try simp only [ctlB])
  repeat' ((first | refine xSQd ?_ | refine xOQd rfl ?_); (try simp only [ctlB]))
  refine aw_for (fun i S H' => H1 = H' ∧ ∃ (z : Nat → Value), S = [.slice aw b.all cw, z 1, z 2, z 3, z 4, z 5, z 6, z 7, .slice (some ⟨b8, 0, some 1⟩) b.all b.all, .slice (some ⟨b9, 0, some 1⟩) b.all b.all, z 10, z 11, z 12, z 13, z 14, z 15, z 16, z 17, .int .i64 (chg out wl i : Nat), .int .i64 (i : Nat), z 20, z 21, z 22, z 23, z 24, z 25, z 26, z 27]) b.all ?_ ?_ ?_ ?_
  ·exact ⟨rfl, exZGc  rfl⟩
  ·rintro i S H' hi ⟨rfl, z,  rfl⟩
   exact ⟨_, by simp (disch := first | omega | (simp only [lenB]; omega)) only [evB, xBQd, Nat.reduceAdd, Nat.reduceBEq, *]; rfl, by simp⟩
  ·rintro i S H' hi ⟨rfl, z,  rfl⟩
   obtain ⟨xb, xo, xsp, xc, xs, e1, gx, fx, _⟩ := (hw.mono hx1).els 0 (by omega)
   rw [hwl] at e1 fx
   cases e1
   have kx := fx i hi
   have hcs := chg_succ out wl i
   have hcl := chg_le out wl i
   clear fx
   generalize wl.getD i 0 = x1 at *
   generalize hx2 : out.getD i 0 = x2 at *
   replace hcs : False ∨ _ := .inr hcs
   (try simp only [ctlB])
   by_cases hne : x1 ≠ x2
   ·have hcs := hcs.resolve_left id
    rw [if_pos hne] at hcs
    refine xCQd (fun h => ?_) (fun h => ?_)
    case refine_2 => exfalso; simp at h <;> omega
    clear h
    (try simp only [ctlB])
    rw [hcs]
    repeat' ((first | refine xSQd ?_ | refine xOQd rfl ?_); (try simp only [ctlB]))
    exact ⟨by trivial, exZGc  (by first | rfl | (simp only [Int.natCast_add, Int.natCast_one]; rfl) | simp only [Int.natCast_add, Int.natCast_one])⟩
   ·have hcs := hcs.resolve_left id
    rw [if_neg hne, Nat.add_zero] at hcs
    refine xCQd (fun h => ?_) (fun h => ?_)
    ·exfalso; simp at h <;> omega
    clear h
    (try simp only [ctlB])
    rw [hcs]
    repeat' ((first | refine xSQd ?_ | refine xOQd rfl ?_); (try simp only [ctlB]))
    exact ⟨by trivial, exZGc  (by first | rfl | (simp only [Int.natCast_add, Int.natCast_one]; rfl) | simp only [Int.natCast_add, Int.natCast_one])⟩
  ·rintro S H' ⟨rfl, z,  rfl⟩
   (try simp only [ctlB])
   repeat' ((first | refine xSQd ?_ | refine xOQd rfl ?_); (try simp only [ctlB]))
   refine xRQd ?_
   exact hfin _ rfl
end
end Go.Proofs.Ytkeagffmmhllcaa
namespace Go.Proofs.Ytkeagffmmhllcaa
open Go.Abs Go.RS
set_option linter.unusedSimpArgs false
set_option linter.unusedVariables false
set_option maxRecDepth 20000
section
variable {lo : Nat} {H : Heap}
set_option maxHeartbeats 2000000 in
theorem spoilP {b : Bk} {aw ap aA aY aE : Option Addr} {cw cq cA cY cE : Nat} {v0 v1 v2 : Value} {wl la lb : List Int} {le : List Bool} (hb : b.Ok) (hpos : 0 < b.all) (hnn : b.n ≤ b.all)
  (hw : SlI H (.slice aw b.all cw) wl) (hwl : wl.length = b.all) (hwr : ∀ i, i < b.all → 0 ≤ wl.getD i 0 ∧ wl.getD i 0 ≤ 255) (hp : SlPt H (.slice ap b.all cq) b.plI)
  (hA : Sl (Value.int .u16) H (.slice aA la.length cA) la) (hAr : ∀ x ∈ la, 0 ≤ x ∧ x ≤ 65535) (hAl : la.length ≤ 1000000) (hY : SlY H (.slice aY lb.length cY) lb) (hYr : ∀ x ∈ lb, 0 ≤ x ∧ x ≤ 255) (hYl : lb.length ≤ 9223372036854775807) (hE : SlB H (.slice aE le.length cE) le) (hEl : le.length ≤ 9223372036854775807) (hlo : lo ≤ H.length) :
  Ev cp lo 17 [.slice aw b.all cw, .agg #[v0, v1, v2, .slice aA la.length cA, .slice aY lb.length cY, .slice aE le.length cE], .slice ap b.all cq, .int .i64 (b.ck : Nat)] H (fun r H' => Ext H H' ∧ ∃ vo ve out el us tl, r = .tuple #[vo, ve, .int .i64 (chg out wl b.all : Nat)] ∧ SpI b wl out el us tl ∧ SlI H' vo out ∧ SlB H' ve el) := by
 have h7 := hb.all
 refine st17 ?_; unfold bd17 cf17; simp only [kB, ctlB]
 repeat' ((first | refine xSQd ?_ | refine xOQd rfl ?_); (try simp only [ctlB]))
 generalize hG : H ++ _ = G at *
 obtain ⟨g4, hxG⟩ := box_facts hG
 have hlG : H.length + 1 ≤ G.length ∧ G.length ≤ H.length + 1 := by rw [← hG]; simp
 clear hG
 have hw1 := hw.mono hxG
 refine xHQd ?_
 refine own_appI (A := []) (base := G.length) (Own.nil (b := G.length) (Nat.le_refl _)) (by omega) (Nat.le_refl _) hw1 (by omega) (by simp only [List.length_nil]; omega) ?_
 intro v8 H1 o8 hk1 hl1
 have hx1 : Ext G H1 := ⟨by omega, fun i hi => hk1.eq i hi (by omega)⟩
 replace hl1 : G.length + 1 ≤ H1.length ∧ H1.length ≤ G.length + 1 := by omega
 rw [List.nil_append] at o8
 obtain ⟨rfl, g8⟩ := own_realI o8 (by omega)
 have hGe : G.length = H.length + 1 := by omega
 rw [hGe] at g8 hl1
 rw [hwl, hGe]
 have hx1 := hxG.trans hx1
 have g4 : Heap.get H1 H.length = some _ := (hk1.eq _ (Heap.get_lt g4) (by omega)).trans g4
 clear hk1 o8 hw1 hGe hxG hlG
 (try simp only [ctlB])
 repeat' ((first | refine xSQd ?_ | refine xOQd rfl ?_); (try simp only [ctlB]))
 refine aw_for (fun k S H' => Ext H1 H' ∧ ∃ v9 v10 b9 b10, Own H1.length 1 H' v9 b9 (boolL (List.replicate k false)) ∧ Own H1.length 1 H' v10 b10 (intL (List.replicate k 0)) ∧ b9 ≠ b10 ∧ (b10 < H1.length + 1 ∨ b10 < H'.length) ∧ ∃ (z : Nat → Value), S = [.slice aw b.all cw, z 1, .slice ap b.all cq, .int .i64 (b.ck : Nat), .pointer (some ⟨H.length, 0, none⟩), z 5, z 6, z 7, .slice (some ⟨H.length + 1, 0, some 1⟩) b.all b.all, v9, v10, .int .i64 (k : Nat), z 12, z 13, z 14, z 15, z 16, z 17, z 18, z 19, z 20, z 21, z 22, z 23, z 24, z 25, z 26, z 27]) b.all ?_ ?_ ?_ ?_
 ·exact ⟨Ext.refl _, _, _, _, _, Own.nil (b := H1.length + 1) (by omega), Own.nil (b := H1.length) (by omega), by omega, by omega, exZGc  rfl⟩
 ·rintro k S H' hk ⟨-, v9, v10, b9, b10, -, -, -, -, z,  rfl⟩
  exact ⟨_, by simp (disch := first | omega | (simp only [lenB]; omega)) only [evB, xBQd, Nat.reduceAdd, Nat.reduceBEq, *]; rfl, by simp⟩
 ·rintro k S H2 hk ⟨hx2, v9, v10, b9, b10, o9, o10, hne, hb10, z,  rfl⟩
  have hl2 := hx2.1
  (try simp only [ctlB])
  repeat' ((first | refine xSQd ?_ | refine xOQd rfl ?_); (try simp only [ctlB]))
  refine xHQd ?_
  refine wpH_app (b := b9) (cells := boolL (List.replicate k false)) (c := [.bool false]) ((o9.mono (Ext.app _ _)).lower (by omega)) (by simp; omega) (by omega) (by omega) (by rw [boolL_len, List.length_replicate]; omega) get_app0 (by simp) rfl rfl ?_
  rw [show boolL (List.replicate k false) ++ [Value.bool false] = boolL (List.replicate (k + 1) false) by rw [List.replicate_succ', boolL_app]; rfl]
  intro v9' H3 o9' hk3 hl3
  replace hl3 : H3.length = H2.length + 2 := by simpa using hl3
  have hx3 := hk3.ext (hx2.trans (Ext.app H2 _)) o9.1
  have o9' : Own H1.length 1 H3 v9' (H2.length + 1) (boolL (List.replicate (k + 1) false)) := ⟨by omega, by simpa using o9'.2⟩
  have o10 := (o10.mono (Ext.app H2 [some [Value.bool false]])).keep hk3 (Ne.symm hne)
  replace hl3 : H2.length + 2 ≤ H3.length ∧ H3.length ≤ H2.length + 2 := by omega
  (try simp only [ctlB])
  repeat' ((first | refine xSQd ?_ | refine xOQd rfl ?_); (try simp only [ctlB]))
  refine xHQd ?_
  refine wpH_app (b := b10) (cells := intL (List.replicate k 0)) (c' := [.int .i64 0]) (c := [.int .i64 0]) ((o10.mono (Ext.app _ _)).lower (by omega)) (by simp; omega) (by omega) (by omega) (by rw [intL_len, List.length_replicate]; omega) get_app0 (by simp) rfl rfl ?_
  rw [show intL (List.replicate k 0) ++ [Value.int .i64 0] = intL (List.replicate (k + 1) 0) by rw [List.replicate_succ', intL_app]; rfl]
  intro v10' H4 o10' hk4 hl4
  replace hl4 : H4.length = H3.length + 2 := by simpa using hl4
  have hx4 := hk4.ext (hx3.trans (Ext.app H3 _)) o10.1
  have o10' : Own H1.length 1 H4 v10' (H3.length + 1) (intL (List.replicate (k + 1) 0)) := ⟨by omega, by simpa using o10'.2⟩
  have o9 := (o9'.mono (Ext.app H3 [some [Value.int .i64 0]])).keep hk4 (by omega)
  replace hl4 : H3.length + 2 ≤ H4.length ∧ H4.length ≤ H3.length + 2 := by omega
  (try simp only [ctlB])
  repeat' ((first | refine xSQd ?_ | refine xOQd rfl ?_); (try simp only [ctlB]))
  exact ⟨hx4, v9', v10', _, _, o9, o10', by omega, by omega, exZGc  (by first | rfl | (simp only [Int.natCast_add, Int.natCast_one]; rfl) | simp only [Int.natCast_add, Int.natCast_one])⟩
 ·rintro S H2 ⟨hx2, v9, v10, b9, b10, o9, o10, hne, hb10, z,  rfl⟩
  have hl2 := hx2.1
  have hh9 := o9.1
  have hh10 := o10.1
  obtain ⟨rfl, g9⟩ := own_realB o9 (by simpa using hpos)
  obtain ⟨rfl, g10⟩ := own_realI o10 (by simpa using hpos)
  simp only [List.length_replicate]
  have hs9 : SlB H2 (.slice (some ⟨b9, 0, some 1⟩) b.all b.all) (List.replicate b.all false) := Sl.whole g9 (by simp)
  have l9 := Heap.get_lt g9
  have l10 := Heap.get_lt g10
  (try simp only [ctlB])
  ((first | refine xSQd ?_ | refine xOQd rfl ?_); (try simp only [ctlB]))
  refine xHQd ?_
  refine own_appB (A := []) (base := H2.length) (Own.nil (b := H2.length) (Nat.le_refl _)) (by omega) (Nat.le_refl _) hs9 (by simpa using hpos) (by simp; omega) ?_
  intro v12 H3 o12 hk3 hl3
  rw [List.nil_append] at o12
  have hx3 : Ext H2 H3 := ⟨by omega, fun i hi => hk3.eq i hi (by omega)⟩
  obtain ⟨rfl, g12⟩ := own_realB o12 (by simpa using hpos)
  simp only [List.length_replicate]
  have hx13 := hx2.trans hx3
  have g8 := hx13.get g8
  have g4 := hx13.get g4
  have g9 := hx3.get g9
  have g10 := hx3.get g10
  have hx03 := hx1.trans hx13
  have l8 := Heap.get_lt g8
  clear o12 hk3 hl3 hs9 o9 o10
  (try simp only [ctlB])
  refine xSQd ?_
  rw [seqQ_n]
  refine spoilB (b := b) (wl := wl) (la := la) (lb := lb) (le := le) (m := H.length + 1) (H0 := H) ?hS hb hpos hnn hw hwl hwr hp g4 hA hAr hAl hY hYr hYl hE hEl (by omega) ⟨by omega, by omega, by omega, by omega⟩ ⟨by omega, by omega, by omega, hne, by omega, by omega⟩ (by omega) (by omega) hx03 ⟨g8, g9, g10, g12⟩ ?_
  case hS => exact exZGc  rfl
  intro v H' out el us tl low hsp h8 h9 hv
  exact ⟨Low.toExt hx03 low (by omega), _, _, out, el, us, tl, hv, hsp, h8, h9⟩
end
end Go.Proofs.Ytkeagffmmhllcaa
namespace Go.Proofs.Ytkeagffmmhllcaa
open Go.Abs Go.RS
set_option linter.unusedSimpArgs false
set_option linter.unusedVariables false
set_option maxRecDepth 20000
section
variable {V L : Int}
theorem xTQy {cp : FuncId → Option CF} {lo : Nat} {l : List (Nat × E)} {chk : List E} {Q : Post} {S : List Value} {H : Heap} {vs : List (Nat × Value)} {dst : Option Nat} {o : HOp} {a : E} {xs : List Value} {pc : PC} (k : wpH cp lo o xs H fun v H' => Q .normal (setD (setAll S vs) dst v) H') (h : evSets S H l = some vs := by simp (disch := first | omega | (simp only [lenB]; omega)) only [evB, xBQi, Nat.reduceAdd, Nat.reduceBEq, *]; rfl) (hc : evChk S H chk = true := by simp (disch := first | omega | (simp only [lenB]; omega)) only [evB, xBQi, Nat.reduceAdd, Nat.reduceBEq, *]) (hp : holds S H pc = some true := by simp (disch := first | omega | (simp only [lenB]; omega)) only [evB, xBQi, Nat.reduceAdd, Nat.reduceBEq, *]; try rfl) (ha : ev S H a = some xs := by simp (disch := first | omega | (simp only [lenB]; omega)) only [evB, xBQi, Nat.reduceAdd, Nat.reduceBEq, *]; rfl) : wpS cp lo (.hv l chk pc dst o a) Q S H := aw_hvT h hc hp ha k
theorem lawCor {H : Heap} {aD aA aY aE : Option Addr} {cD cA cY cE : Nat} {lD la lb : List Int} {le : List Bool}
  (hD : SlY H (.slice aD lD.length cD) lD) (hDr : ∀ x ∈ lD, 0 ≤ x ∧ x ≤ 255) (hDl : lD.length ≤ 9223372036854775807) (hA : Sl (Value.int .u16) H (.slice aA la.length cA) la) (hAr : ∀ x ∈ la, 0 ≤ x ∧ x ≤ 65535) (hAl : la.length ≤ 9223372036854775807) (hY : SlY H (.slice aY lb.length cY) lb) (hYr : ∀ x ∈ lb, 0 ≤ x ∧ x ≤ 255) (hYl : lb.length ≤ 9223372036854775807) (hE : SlB H (.slice aE le.length cE) le) (hEl : le.length ≤ 9223372036854775807) :
  Ev cp H.length 5 [.agg #[.int .i64 V, .int .i64 L, .slice aD lD.length cD, .slice aA la.length cA, .slice aY lb.length cY, .slice aE le.length cE]] H (fun v _ => v = .bool true) := by
 refine st5 ?_; unfold bd5 cf5; simp only [kB, ctlB]
 repeat' ((first | refine xSQi ?_ | refine xOQi rfl ?_); (try simp only [ctlB]))
 generalize hG : H ++ _ = G at *
 obtain ⟨g1, hxG⟩ := box_facts hG
 clear hG
 have hlG := hxG.1
 have hlg1 := Heap.get_lt g1
 by_cases hvl : Vl V L
 case neg =>
  refine xHQi ?_
  refine wpH_call0 (dataP_bad (v := V) (l := L) hlG hvl) ?_
  rintro r H1 ⟨hx1, rfl⟩
  have g1 := hx1.get g1
  have hl1 := hx1.1
  (try simp only [ctlB])
  repeat' ((first | refine xSQi ?_ | refine xOQi rfl ?_); (try simp only [ctlB]))
  refine xCQi (fun h => ?_) (fun h => ?_)
  case refine_2 => simp at h
  clear h
  (try simp only [ctlB])
  refine xHQi ?_
  refine wpH_call0 (exH (by omega)) ?_
  rintro r H2 ⟨-, rfl⟩
  (try simp only [ctlB])
  repeat' ((first | refine xSQi ?_ | refine xOQi rfl ?_); (try simp only [ctlB]))
  refine xRQi ?_
  rfl
 obtain ⟨i, hi, ha⟩ := vl_arg hvl
 have hb := bk_ok hi
 obtain ⟨p1, p2, p3⟩ := hb.pos
 have hP : ∀ {H' : Heap}, H.length ≤ H'.length → _ := fun {H'} h => placeP (lo := H.length) (H := H') hi ha h
 have hst : ∀ {H' : Heap}, H.length ≤ H'.length → _ := fun {H'} h => stV_vl (lo := H.length) (H := H') hi ha h
 have hEn : ∀ {H' : Heap} {vd : Value} {d : List Int}, SlI H' vd d → d.length ≤ 1000000000 → H.length ≤ H'.length → _ := fun {H' vd d} h1 h2 h => encP (lo := H.length) (H := H') h1 h2 hi ha h
 have hDe : ∀ {H' : Heap} {vw ve : Value} {wl : List Int} {el : List Bool}, SlI H' vw wl → SlB H' ve el → wl.length ≤ 1000000000 → el.length ≤ 1000000000 → H.length ≤ H'.length → _ := fun {H' vw ve wl el} h1 h2 h3 h4 h => decP (lo := H.length) (H := H') h1 h2 h3 h4 hi ha h
 have hDa := dataP (lo := H.length) (hD.mono hxG) hDr hDl hi ha hlG
 clear ha
 refine xHQi ?_
 refine wpH_call0 hDa ?_
 clear hDa
 generalize bk i = b at *
 rintro r H1 ⟨hx1, d, hd, hvd⟩
 have h7 := hb.all
 have hcap : b.cap ≤ 3706 := by
  have : b.all = b.cap + b.n * b.ck := rfl
  omega
 have g1 := hx1.get g1
 have hx1 := hxG.trans hx1
 have hl1 := hx1.1
 have hvd0 := hvd
 obtain ⟨ad, cd, e0⟩ := hvd.len
 rw [valI_len, hd] at e0
 subst e0
 clear hxG hlG hvd
 (try simp only [ctlB])
 repeat' ((first | refine xSQi ?_ | refine xOQi rfl ?_); (try simp only [ctlB]))
 by_cases hg : 12 < V ∨ 200 < la.length
 ·refine xCQi (fun h => ?_) (fun h => ?_)
  case refine_2 => simp at h; omega
  clear h
  (try simp only [ctlB])
  refine xHQi ?_
  refine wpH_call0 (exH hl1) ?_
  rintro r H2 ⟨-, rfl⟩
  (try simp only [ctlB])
  repeat' ((first | refine xSQi ?_ | refine xOQi rfl ?_); (try simp only [ctlB]))
  refine xRQi ?_
  rfl
 refine xCQi (fun h => ?_) (fun h => ?_)
 ·simp at h; omega
 clear h
 (try simp only [ctlB])
 repeat' ((first | refine xSQi ?_ | refine xOQi rfl ?_); (try simp only [ctlB]))
 refine xHQi ?_
 refine wpH_call0 (hEn hvd0.sli (by rw [valI_len]; omega) hl1) ?_
 rintro r H2 ⟨hx2, -, -, hen⟩
 obtain ⟨vo, rfl, hvo, hnew, hie⟩ := hen d rfl hd
 have g1 := hx2.get g1
 have hvd0 := hvd0.mono hx2
 have hx2 := hx1.trans hx2
 have hl2 := hx2.1
 have hwl := wv_len b (b.W d)
 obtain ⟨ao, cc, e0⟩ := hvo.len
 rw [hwl] at e0
 subst e0
 have hwi := hvo.sli
 clear hen hEn hnew hvo hx1
 (try simp only [ctlB])
 repeat' ((first | refine xSQi ?_ | refine xOQi rfl ?_); (try simp only [ctlB]))
 refine xHQi ?_
 refine wpH_call0 (hP hl2) ?_
 rintro r H3 ⟨hx3, vp, rfl, hp⟩
 have g1 := hx3.get g1
 have hvd0 := hvd0.mono hx3
 have hwi := hwi.mono hx3
 have hx3 := hx2.trans hx3
 have hl3 := hx3.1
 have hpll : b.plI.length = b.all := by unfold Bk.plI; rw [List.length_map, b.pl_len]
 have hp0 := hp
 obtain ⟨ap, cp', e0⟩ := hp.len
 rw [hpll] at e0
 subst e0
 clear hP hp hx2
 (try simp only [ctlB])
 repeat' ((first | refine xSQi ?_ | refine xOQi rfl ?_); (try simp only [ctlB]))
 refine xHQi ?_
 refine wpH_call0 (hst hl3) ?_
 rintro r H4 ⟨hx4, rfl⟩
 have g1 := hx4.get g1
 have hvd0 := hvd0.mono hx4
 have hwi := hwi.mono hx4
 have hp0 := hp0.mono hx4
 have hx4 := hx3.trans hx4
 have hl4 := hx4.1
 clear hst hx3
 unfold Bk.val
 (try simp only [ctlB])
 repeat' ((first | refine xSQi ?_ | refine xOQi rfl ?_); (try simp only [ctlB]))
 generalize hG : H4 ++ _ = G4 at *
 obtain ⟨g0, hxG⟩ := box_facts hG
 clear hG
 have g1 := hxG.get g1
 have hvd0 := hvd0.mono hxG
 have hwi := hwi.mono hxG
 have hp0 := hp0.mono hxG
 have hx5 := hx4.trans hxG
 have hl5 := hx5.1
 have hlg := Heap.get_lt g0
 clear hxG hx4
 refine xCQi (fun h => ?_) (fun h => ?_)
 ·simp at h
 clear h
 (try simp only [ctlB])
 refine xHQi ?_
 refine wpH_call0 (spoilP (b := b) (wl := b.wv (b.W d)) (la := la) (lb := lb) (le := le) hb p1 p2 hwi hwl (fun i hi => wv_byte hi) hp0 (hA.mono hx5) hAr (by omega) (hY.mono hx5) hYr hYl (hE.mono hx5) hEl hl5) ?_
 rintro r H6 ⟨hx6, vo, ve, out, el, us, tl, rfl, hsp, hvo, hve⟩
 have g1 := hx6.get g1
 have hvd0 := hvd0.mono hx6
 have hx6 := hx5.trans hx6
 have hl6 := hx6.1
 have hol := hsp.lo
 have hel := hsp.le
 have hrd : Rd b out fun i => el.getD i false := fun i hi _ => hsp.by' i hi
 have hfix : ∀ x, x < b.n → OkX b out (fun i => el.getD i false) x ∧ fxX b out (fun i => el.getD i false) x = b.W d x := fun x hx => by
  have he := hie x hx
  exact corrX hb hx hrd (by rw [he.len, blk_len hd hx]) he.cw (hsp.cost hx)
 have hwe := wv_congr fun x hx => (hfix x hx).2
 have hde := dat_congr fun x hx => (hfix x hx).2
 rw [dat_enc hd hie] at hde
 clear g0
 (try simp only [ctlB])
 repeat' ((first | refine xSQi ?_ | refine xOQi rfl ?_); (try simp only [ctlB]))
 refine xHQi ?_
 refine wpH_call0 (hDe hvo hve (by omega) (by omega) hl6) ?_
 rintro r H7 ⟨hx7, -, -, -, hdc⟩
 obtain ⟨vr, rfl, hvr⟩ := hdc (by omega) hrd (fun x hx => (hfix x hx).1)
 rw [hwe]
 rw [hde] at hvr
 have hvd0 := hvd0.mono hx7
 have hx7 := hx6.trans hx7
 have hl7 := hx7.1
 clear hdc hDe hwe hde hfix hrd g1
 unfold tup3
 (try simp only [ctlB])
 repeat' ((first | refine xSQi ?_ | refine xOQi rfl ?_); (try simp only [ctlB]))
 refine xTQy ?_
 refine wpH_call0 (same_eq hvr hvd0.sli (by rw [valI_len]; omega) (by rw [valI_len]; omega) rfl) ?_
 rintro r _ ⟨rfl, rfl⟩
 (try simp only [ctlB])
 refine xTQy ?_
 refine wpH_call0 (exH hl7) ?_
 rintro r H8 ⟨-, rfl⟩
 (try simp only [ctlB])
 repeat' ((first | refine xSQi ?_ | refine xOQi rfl ?_); (try simp only [ctlB]))
 refine xRQi ?_
 rfl
end
end Go.Proofs.Ytkeagffmmhllcaa
