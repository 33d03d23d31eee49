/- Reasoning about the abstract machine: calls and statements by what they come to, without counts of steps. Moving a run to another place: what the abstract machine answers over a heap it answers over every heap that holds the same behind other blocks. Moving a run to another place: heavy operations, statements, calls. -/
import Derived.Test.YthejjplggcfjcaaD6
set_option linter.unusedVariables false
set_option linter.unusedSimpArgs false
set_option linter.unusedSectionVars false
namespace Go.Abs
def Ev (cp : FuncId → Option CF) (lo : Nat) (f : FuncId) (args : List Value) (H : Heap) (R : Value → Heap → Prop) : Prop :=
 ∃ N v H', (∀ n, N ≤ n → run cp n lo f args H = some (v, H')) ∧ R v H'
theorem Ev.mono {cp : FuncId → Option CF} {lo : Nat} {f : FuncId} {args : List Value} {H : Heap} {R R' : Value → Heap → Prop} (h : Ev cp lo f args H R) (hr : ∀ v H', R v H' → R' v H') : Ev cp lo f args H R' := by
 obtain ⟨N, v, H', h1, h2⟩ := h; exact ⟨N, v, H', h1, hr _ _ h2⟩
abbrev Post := Ex → List Value → Heap → Prop
def setD (S : List Value) (dst : Option Nat) (v : Value) : List Value := match dst with | some d => S.set d v | none => S
def hsem0 (lo : Nat) (o : HOp) (vs : List Value) (H : Heap) : Option (Value × Heap) := hsem (fun _ _ _ _ => none) lo o vs H
def wpH (cp : FuncId → Option CF) (lo : Nat) (o : HOp) (vs : List Value) (H : Heap) (R : Value → Heap → Prop) : Prop :=
 match o with
 | .call raise => match vs with
  | .func (.func f) first cap :: args => Ev cp (if raise then H.length else lo) f (first.toList ++ args ++ cap.toList) H R
  | _ => False
 | o => match hsem0 lo o vs H with
  | some (v, H') => R v H'
  | none => False
def wpS (cp : FuncId → Option CF) (lo : Nat) : Stm → Post → List Value → Heap → Prop
 | .skip, Q, S, H => Q .normal S H
 | .sets l chk, Q, S, H => match evSets S H l with
  | some vs => evChk S H chk = true ∧ Q .normal (setAll S vs) H
  | none => False
 | .hv l chk pc dst o a, Q, S, H => match evSets S H l with
  | some vs => evChk S H chk = true ∧ match holds S H pc with
   | some true => match ev S H a with
    | some xs => wpH cp lo o xs H fun v H' => Q .normal (setD (setAll S vs) dst v) H'
    | none => False
   | some false => Q .normal (setD (setAll S vs) dst undef) H
   | none => False
  | none => False
 | .dist a b, Q, S, H => match ev1 S H a, ev1 S H b with
  | some x, some y => (blockOf x = none ∨ blockOf x ≠ blockOf y) ∧ Q .normal S H
  | _, _ => False
 | .seq a b, Q, S, H => wpS cp lo a (fun ex S' H' => match ex with | .normal => wpS cp lo b Q S' H' | ex => Q ex S' H') S H
 | .cond c a b, Q, S, H => match ev1 S H c with
  | some (.bool t) => (t = true → wpS cp lo a Q S H) ∧ (t = false → wpS cp lo b Q S H)
  | _ => False
 | .block i b, Q, S, H => wpS cp lo b (fun ex S' H' => match ex with | .exit j => if j = i then Q .normal S' H' else Q (.exit j) S' H' | ex => Q ex S' H') S H
 | .loop b, Q, S, H => ∃ (J : Nat → List Value → Heap → Prop) (m : Nat), J m S H ∧ ∀ m S H, J m S H → wpS cp lo b (fun ex S' H' => match ex with | .normal => ∃ m', m' < m ∧ J m' S' H' | ex => Q ex S' H') S H
 | .exit i, Q, S, H => Q (.exit i) S H
 | .ret, Q, S, H => Q .ret S H
set_option maxHeartbeats 4000000 in
theorem hsem0_eq {callA : CallA} {lo : Nat} {o : HOp} {vs : List Value} {H : Heap} (h : o.isCall = false) : hsem callA lo o vs H = hsem0 lo o vs H := by
 unfold hsem0
 cases o <;> simp [HOp.isCall] at h
 all_goals (rcases vs with _ | ⟨a, _ | ⟨b, _ | ⟨c, r⟩⟩⟩) <;> first | rfl | (cases a <;> first | rfl | (rename_i ad; cases ad <;> first | rfl | (rename_i ad; rcases ad with ⟨i, o, _ | z⟩ <;> rfl)) | (rename_i ad _ _; cases ad <;> first | rfl | (cases b <;> first | rfl | (rename_i bd _ _; cases bd <;> rfl))) | (cases b <;> first | rfl | (rename_i bd _ _; cases bd <;> rfl)))
theorem wpH_ok {cp : FuncId → Option CF} {lo : Nat} {o : HOp} {vs : List Value} {H : Heap} {R : Value → Heap → Prop} (h : wpH cp lo o vs H R) : ∃ N v H', (∀ n, N ≤ n → hsem (run cp n) lo o vs H = some (v, H')) ∧ R v H' := by
 unfold wpH at h
 split at h
 ·rename_i raise
  split at h
  ·obtain ⟨N, v, H', h1, h2⟩ := h
   exact ⟨N, v, H', fun n hn => by simp only [hsem]; exact h1 n hn, h2⟩
  ·exact h.elim
 ·rename_i o2 hne
  have hc : o.isCall = false := by
   cases o <;> first | rfl | exact (hne _ rfl).elim
  split at h
  ·rename_i v H' hs
   exact ⟨0, v, H', fun n _ => by rw [hsem0_eq hc]; exact hs, h⟩
  ·exact h.elim
theorem wpS_ok {cp : FuncId → Option CF} {lo : Nat} : ∀ (st : Stm) (Q : Post) (S : List Value) (H : Heap), wpS cp lo st Q S H → ∃ N ex S' H', (∀ n, N ≤ n → exec (run cp n) lo n st S H = some (ex, S', H')) ∧ Q ex S' H'
 | .skip, Q, S, H, h => ⟨0, .normal, S, H, fun _ _ => rfl, h⟩
 | .sets l chk, Q, S, H, h => by
  simp only [wpS] at h
  split at h
  ·rename_i vs hvs; exact ⟨0, .normal, _, H, fun _ _ => by simp [exec, hvs, h.1], h.2⟩
  ·exact h.elim
 | .hv l chk pc dst o a, Q, S, H, h => by
  simp only [wpS] at h
  split at h
  ·rename_i vs hvs
   obtain ⟨hchk, h⟩ := h
   split at h
   ·rename_i hp
    split at h
    ·rename_i xs hxs
     obtain ⟨N, v, H', h1, h2⟩ := wpH_ok h
     refine ⟨N, .normal, _, H', fun n hn => ?_, h2⟩
     simp only [exec, hvs, hchk, if_true, hp, hxs, h1 n hn]
     cases dst <;> rfl
    ·exact h.elim
   ·rename_i hp
    refine ⟨0, .normal, _, H, fun n _ => ?_, h⟩
    simp only [exec, hvs, hchk, if_true, hp]
    cases dst <;> rfl
   ·exact h.elim
  ·exact h.elim
 | .dist a b, Q, S, H, h => by
  simp only [wpS] at h
  split at h
  ·rename_i x y hx hy; exact ⟨0, .normal, S, H, fun _ _ => by simp only [exec, hx, hy]; rw [if_pos h.1], h.2⟩
  ·exact h.elim
 | .seq a b, Q, S, H, h => by
  simp only [wpS] at h
  obtain ⟨N, ex, S1, H1, h1, h2⟩ := wpS_ok a _ S H h
  cases ex with
  | normal =>
   obtain ⟨N2, ex2, S2, H2, h3, h4⟩ := wpS_ok b Q S1 H1 h2
   exact ⟨max N N2, ex2, S2, H2, fun n hn => by simp only [exec, h1 n (by omega), h3 n (by omega)], h4⟩
  | exit i => exact ⟨N, .exit i, S1, H1, fun n hn => by simp only [exec, h1 n hn], h2⟩
  | ret => exact ⟨N, .ret, S1, H1, fun n hn => by simp only [exec, h1 n hn], h2⟩
 | .cond c a b, Q, S, H, h => by
  simp only [wpS] at h
  split at h
  ·rename_i t ht
   cases t
   ·obtain ⟨N, ex, S1, H1, h1, h2⟩ := wpS_ok b Q S H (h.2 rfl)
    exact ⟨N, ex, S1, H1, fun n hn => by simp only [exec, ht, h1 n hn], h2⟩
   ·obtain ⟨N, ex, S1, H1, h1, h2⟩ := wpS_ok a Q S H (h.1 rfl)
    exact ⟨N, ex, S1, H1, fun n hn => by simp only [exec, ht, h1 n hn], h2⟩
  ·exact h.elim
 | .block i b, Q, S, H, h => by
  simp only [wpS] at h
  obtain ⟨N, ex, S1, H1, h1, h2⟩ := wpS_ok b _ S H h
  cases ex with
  | normal => exact ⟨N, .normal, S1, H1, fun n hn => by simp only [exec, h1 n hn], h2⟩
  | exit j =>
   simp only at h2
   split at h2
   ·rename_i hj; exact ⟨N, .normal, S1, H1, fun n hn => by simp only [exec, h1 n hn, hj, if_true], h2⟩
   ·rename_i hj; exact ⟨N, .exit j, S1, H1, fun n hn => by simp only [exec, h1 n hn, hj, if_false], h2⟩
  | ret => exact ⟨N, .ret, S1, H1, fun n hn => by simp only [exec, h1 n hn], h2⟩
 | .loop b, Q, S, H, h => by
  simp only [wpS] at h
  obtain ⟨J, m, hJ, hstep⟩ := h
  have key : ∀ m S H, J m S H → ∃ N ex S' H', (∀ n k, N ≤ n → N ≤ k → iter (exec (run cp n) lo n b) k S H = some (ex, S', H')) ∧ Q ex S' H' := by
   intro m
   induction m using Nat.strongRecOn with
   | _ m ih =>
    intro S H hJ
    obtain ⟨N, ex, S1, H1, h1, h2⟩ := wpS_ok b _ S H (hstep m S H hJ)
    cases ex with
    | normal =>
     obtain ⟨m', hlt, hJ'⟩ := h2
     obtain ⟨N2, ex2, S2, H2, h3, h4⟩ := ih m' hlt S1 H1 hJ'
     refine ⟨max N N2 + 1, ex2, S2, H2, fun n k hn hk => ?_, h4⟩
     obtain ⟨k', rfl⟩ : ∃ k', k = k' + 1 := ⟨k - 1, by omega⟩
     simp only [iter, h1 n (by omega), h3 n k' (by omega) (by omega)]
    | exit i =>
     refine ⟨N + 1, .exit i, S1, H1, fun n k hn hk => ?_, h2⟩
     obtain ⟨k', rfl⟩ : ∃ k', k = k' + 1 := ⟨k - 1, by omega⟩
     simp only [iter, h1 n (by omega)]
    | ret =>
     refine ⟨N + 1, .ret, S1, H1, fun n k hn hk => ?_, h2⟩
     obtain ⟨k', rfl⟩ : ∃ k', k = k' + 1 := ⟨k - 1, by omega⟩
     simp only [iter, h1 n (by omega)]
  obtain ⟨N, ex, S', H', h1, h2⟩ := key m S H hJ
  exact ⟨N, ex, S', H', fun n hn => by simp only [exec]; exact h1 n n hn hn, h2⟩
 | .exit i, Q, S, H, h => ⟨0, .exit i, S, H, fun _ _ => rfl, h⟩
 | .ret, Q, S, H, h => ⟨0, .ret, S, H, fun _ _ => rfl, h⟩
def bodyQ (cf : CF) (R : Value → Heap → Prop) : Post := fun ex S H => match ex with
 | .exit _ => False
 | _ => match evList S H cf.res with
  | some vs => R (resultOf vs) H
  | none => False
theorem ev_of_wp {cp : FuncId → Option CF} {lo : Nat} {f : FuncId} {cf : CF} {args : List Value} {H : Heap} {R : Value → Heap → Prop} (hcf : cp f = some cf) (hnp : args.length = cf.np)
  (h : wpS cp lo cf.body (bodyQ cf R) (args ++ List.replicate (cf.ns - cf.np) undef) H) : Ev cp lo f args H R := by
 obtain ⟨N, ex, S', H', h1, h2⟩ := wpS_ok _ _ _ _ h
 have fin : ∀ (ex : Ex), (ex = .normal ∨ ex = .ret) → (∀ n, N ≤ n → exec (run cp n) lo n cf.body (args ++ List.replicate (cf.ns - cf.np) undef) H = some (ex, S', H')) → bodyQ cf R ex S' H' → Ev cp lo f args H R := by
  intro ex hex h1 h2
  have h3 : match evList S' H' cf.res with | some vs => R (resultOf vs) H' | none => False := by
   rcases hex with rfl | rfl <;> exact h2
  split at h3
  ·rename_i vs hvs
   refine ⟨N + 1, resultOf vs, H', fun n hn => ?_, h3⟩
   obtain ⟨n', rfl⟩ : ∃ n', n = n' + 1 := ⟨n - 1, by omega⟩
   simp only [run, hcf, hnp, if_true]
   rw [h1 n' (by omega)]
   rcases hex with rfl | rfl <;> simp only [hvs]
  ·exact h3.elim
 cases ex with
 | normal => exact fin .normal (.inl rfl) h1 h2
 | exit i => exact h2.elim
 | ret => exact fin .ret (.inr rfl) h1 h2
theorem calls_of_ev {P : Program} {cp : FuncId → Option CF} (hok : ∀ base n, CallOK P base P.globals.size (run cp n)) {f : FuncId} {args cargs : List Value} {H : Heap} {φ : Map} {w : World} {R : Value → Heap → Prop}
  (hH : HRel φ H.length P.globals.size H w) (hargs : LRel φ args cargs) (h : Ev cp H.length f args H R) :
  Calls P f cargs.toArray w fun e w' => ∃ v cv H' φ', R v H' ∧ e = .returned cv ∧ Eff φ H.length P.globals.size H.length H w φ' H' w' ∧ VRel φ' v cv := by
 obtain ⟨N, v, H', h1, h2⟩ := h
 have := (hok H.length N H.length f args H v H' (Nat.le_refl _) (Nat.le_refl _) (h1 N (Nat.le_refl _))).2 φ w cargs hH hargs
 exact this.mono fun e w' ⟨cv, φ', a, b, c⟩ => ⟨v, cv, H', φ', h2, a, b, c⟩
end Go.Abs
namespace Go.Abs
inductive Sh (k : Nat) : Value → Value → Prop where
 | bool (b : Bool) : Sh k (.bool b) (.bool b)
 | int (i : IntKind) (n : Int) : Sh k (.int i n) (.int i n)
 | float (i : FloatKind) (n : Nat) : Sh k (.float i n) (.float i n)
 | string (s : ByteArray) : Sh k (.string s) (.string s)
 | nilPtr : Sh k (.pointer none) (.pointer none)
 | ptr (i o : Nat) (sp : Option Nat) : Sh k (.pointer (some ⟨i, o, sp⟩)) (.pointer (some ⟨k + i, o, sp⟩))
 | nilSlice (l c : Nat) : Sh k (.slice none l c) (.slice none l c)
 | slice (i o l c : Nat) (sp : Option Nat) : Sh k (.slice (some ⟨i, o, sp⟩) l c) (.slice (some ⟨k + i, o, sp⟩) l c)
 | nilMap : Sh k (.map none) (.map none)
 | func (f : FuncId) (a b a' b' : Array Value) (ha : a.size = a'.size) (hb : b.size = b'.size)
   (ra : ∀ (j : Nat) x y, a[j]? = some x → a'[j]? = some y → Sh k x y) (rb : ∀ (j : Nat) x y, b[j]? = some x → b'[j]? = some y → Sh k x y) :
   Sh k (.func (.func f) a b) (.func (.func f) a' b')
 | nilFunc : Sh k .nilFunc .nilFunc
 | iface (t : TypeId) (v v' : Value) (h : Sh k v v') : Sh k (.iface t v) (.iface t v')
 | nilIface : Sh k .nilIface .nilIface
 | agg (a a' : Array Value) (ha : a.size = a'.size) (ra : ∀ (j : Nat) x y, a[j]? = some x → a'[j]? = some y → Sh k x y) : Sh k (.agg a) (.agg a')
 | tuple (a a' : Array Value) (ha : a.size = a'.size) (ra : ∀ (j : Nat) x y, a[j]? = some x → a'[j]? = some y → Sh k x y) : Sh k (.tuple a) (.tuple a')
def LSh (k : Nat) (l l' : List Value) : Prop := l.length = l'.length ∧ ∀ (j : Nat) x y, l[j]? = some x → l'[j]? = some y → Sh k x y
section
variable {k : Nat}
theorem LSh.nil : LSh k [] [] := ⟨rfl, fun j x y a => by simp at a⟩
theorem LSh.cons {x y : Value} {l l' : List Value} (h : Sh k x y) (r : LSh k l l') : LSh k (x :: l) (y :: l') := by
 refine ⟨by simp [r.1], fun j a b ha hb => ?_⟩
 cases j with
 | zero => simp at ha hb; subst ha hb; exact h
 | succ j => simp at ha hb; exact r.2 j a b ha hb
theorem LSh.of_cons {x : Value} {l l' : List Value} (r : LSh k (x :: l) l') : ∃ y r', l' = y :: r' ∧ Sh k x y ∧ LSh k l r' := by
 cases l' with
 | nil => have := r.1; simp at this
 | cons y r' =>
  refine ⟨y, r', rfl, r.2 0 x y rfl rfl, ?_, fun j a b ha hb => r.2 (j + 1) a b (by simpa using ha) (by simpa using hb)⟩
  have := r.1; simp at this; exact this
theorem LSh.of_nil {l' : List Value} (r : LSh k [] l') : l' = [] := by
 cases l' with
 | nil => rfl
 | cons y r' => have := r.1; simp at this
theorem LSh.append {a b a' b' : List Value} (h : LSh k a a') (g : LSh k b b') : LSh k (a ++ b) (a' ++ b') := by
 refine ⟨by simp [h.1, g.1], fun j x y hx hy => ?_⟩
 by_cases hj : j < a.length
 ·rw [List.getElem?_append_left hj] at hx
  rw [List.getElem?_append_left (h.1 ▸ hj)] at hy
  exact h.2 j x y hx hy
 ·rw [List.getElem?_append_right (by omega)] at hx
  rw [List.getElem?_append_right (by rw [← h.1]; omega)] at hy
  exact g.2 (j - a.length) x y hx (by rw [h.1]; exact hy)
theorem LSh.take {a a' : List Value} (h : LSh k a a') (n : Nat) : LSh k (a.take n) (a'.take n) := by
 refine ⟨by simp [h.1], fun j x y hx hy => ?_⟩
 rw [List.getElem?_take] at hx hy
 split at hx
 ·rename_i hj; rw [if_pos hj] at hy; exact h.2 j x y hx hy
 ·simp at hx
theorem LSh.drop {a a' : List Value} (h : LSh k a a') (n : Nat) : LSh k (a.drop n) (a'.drop n) := by
 refine ⟨by simp [h.1], fun j x y hx hy => ?_⟩
 rw [List.getElem?_drop] at hx hy
 exact h.2 _ x y hx hy
theorem LSh.arr {a a' : Array Value} : LSh k a.toList a'.toList ↔ (a.size = a'.size ∧ ∀ (j : Nat) x y, a[j]? = some x → a'[j]? = some y → Sh k x y) := by
 simp [LSh]
theorem LSh.putCells {c c' v v' : List Value} (h : LSh k c c') (g : LSh k v v') (off : Nat) : LSh k (putCells c off v) (putCells c' off v') := by
 unfold Abs.putCells
 rw [← g.1]
 exact (h.take off).append (g.append (h.drop _))
theorem LSh.set {S S' : List Value} (h : LSh k S S') {v v' : Value} (hv : Sh k v v') (j : Nat) : LSh k (S.set j v) (S'.set j v') := by
 refine ⟨by simp [h.1], fun i x y hx hy => ?_⟩
 rw [List.getElem?_set] at hx hy
 split at hx
 ·rename_i e; rw [if_pos e] at hy
  split at hx
  ·split at hy
   ·cases hx; cases hy; exact hv
   ·simp at hy
  ·simp at hx
 ·rename_i e; rw [if_neg e] at hy; exact h.2 i x y hx hy
theorem Sh.cells {v c : Value} (h : Sh k v c) : LSh k v.cells.toList c.cells.toList := by
 have one : ∀ {v c : Value}, Sh k v c → LSh k [v] [c] := fun h => LSh.cons h LSh.nil
 cases h with
 | agg a a' ha ra => exact LSh.arr.2 ⟨ha, ra⟩
 | bool b => exact one (.bool b)
 | int k n => exact one (.int k n)
 | float k n => exact one (.float k n)
 | string s => exact one (.string s)
 | nilPtr => exact one .nilPtr
 | ptr i o sp => exact one (.ptr i o sp)
 | nilSlice l c => exact one (.nilSlice l c)
 | slice i o l c sp => exact one (.slice i o l c sp)
 | nilMap => exact one .nilMap
 | func f a b a' b' ha hb ra rb => exact one (.func f a b a' b' ha hb ra rb)
 | nilFunc => exact one .nilFunc
 | iface t v v' h => exact one (.iface t v v' h)
 | nilIface => exact one .nilIface
 | tuple a a' ha ra => exact one (.tuple a a' ha ra)
theorem Sh.oneCell {v c : Value} (h : Sh k v c) : c.oneCell' = v.oneCell' := by cases h <;> rfl
theorem LSh.oneCells {l l' : List Value} (r : LSh k l l') : Abs.oneCells l' = Abs.oneCells l := by
 unfold Abs.oneCells
 induction l generalizing l' with
 | nil => rw [r.of_nil]
 | cons a l ih =>
  obtain ⟨b, r', rfl, h1, h2⟩ := r.of_cons
  simp [h1.oneCell, ih h2]
structure HSh (k : Nat) (H B : Heap) : Prop where
 len : B.length = k + H.length
 get : ∀ i c, H.get i = some c → ∃ c', B.get (k + i) = some c' ∧ LSh k c c'
theorem HSh.cells {H B : Heap} (h : HSh k H B) {i off n : Nat} {l : List Value} (hc : H.cells i off n = some l) : ∃ l', B.cells (k + i) off n = some l' ∧ LSh k l l' := by
 unfold Heap.cells at hc ⊢
 split at hc
 ·rename_i c hg
  obtain ⟨c', h1, h2⟩ := h.get i c hg
  rw [h1]
  simp only
  split at hc
  ·rename_i hle
   simp at hc; subst hc
   rw [if_pos (by rw [← h2.1]; exact hle)]
   exact ⟨_, rfl, (h2.drop off).take n⟩
  ·simp at hc
 ·simp at hc
theorem LSh.one {vs vs' : List Value} (h : LSh k vs vs') {x : Value} (e : vs = [x]) : ∃ x', vs' = [x'] ∧ Sh k x x' := by
 subst e
 obtain ⟨y, r, rfl, h1, h2⟩ := h.of_cons
 rw [h2.of_nil]; exact ⟨y, rfl, h1⟩
theorem LSh.two {vs vs' : List Value} (h : LSh k vs vs') {x y : Value} (e : vs = [x, y]) : ∃ x' y', vs' = [x', y'] ∧ Sh k x x' ∧ Sh k y y' := by
 subst e
 obtain ⟨a, r, rfl, h1, h2⟩ := h.of_cons
 obtain ⟨b, r', rfl, h3, h4⟩ := h2.of_cons
 rw [h4.of_nil]; exact ⟨a, b, rfl, h1, h3⟩
end
end Go.Abs
namespace Go.Abs
section
variable {k : Nat}
theorem get_of {H : Heap} {i : Nat} {c : List Value} : H.get i = some c ↔ H[i]? = some (some c) := by
 unfold Heap.get
 split
 ·rename_i d h; rw [h]; simp
 ·rename_i h
  constructor
  ·intro e; simp at e
  ·intro e; exact (h c e).elim
structure MSh (k : Nat) (B : Heap) (H' B' : Heap) : Prop where
 sh : HSh k H' B'
 pre : ∀ i, i < k → B'[i]? = B[i]?
theorem MSh.refl {H B : Heap} (h : HSh k H B) : MSh k B H B := ⟨h, fun _ _ => rfl⟩
theorem MSh.trans {B H1 B1 H2 B2 : Heap} (h : MSh k B H1 B1) (g : MSh k B1 H2 B2) : MSh k B H2 B2 := ⟨g.sh, fun i hi => (g.pre i hi).trans (h.pre i hi)⟩
theorem HSh.push {H B : Heap} (h : HSh k H B) {c c' : List Value} (hc : LSh k c c') : MSh k B (H ++ [some c]) (B ++ [some c']) := by
 refine ⟨⟨by simp [h.len]; omega, fun i d hd => ?_⟩, fun i hi => ?_⟩
 ·rw [get_of] at hd
  by_cases hi : i < H.length
  ·rw [List.getElem?_append_left hi] at hd
   obtain ⟨d', h1, h2⟩ := h.get i d (get_of.2 hd)
   refine ⟨d', ?_, h2⟩
   rw [get_of] at h1 ⊢
   rw [List.getElem?_append_left (by rw [h.len]; omega)]; exact h1
  ·rw [List.getElem?_append_right (by omega)] at hd
   have : i - H.length = 0 := by
    have := (List.getElem?_eq_some_iff.1 hd).1
    simp at this; omega
   rw [this] at hd
   simp at hd; subst hd
   refine ⟨c', ?_, hc⟩
   rw [get_of, List.getElem?_append_right (by rw [h.len]; omega)]
   have : k + i - B.length = 0 := by rw [h.len]; omega
   rw [this]; rfl
 ·rw [List.getElem?_append_left (by rw [h.len]; omega)]
theorem HSh.setB {H B : Heap} (h : HSh k H B) {i : Nat} {c c' : Option (List Value)} (hc : ∀ d, c = some d → ∃ d', c' = some d' ∧ LSh k d d') : MSh k B (H.set i c) (B.set (k + i) c') := by
 refine ⟨⟨by simp [h.len], fun j d hd => ?_⟩, fun j hj => ?_⟩
 ·rw [get_of, List.getElem?_set] at hd
  split at hd
  ·rename_i e; subst e
   split at hd
   ·rename_i hlt
    simp at hd
    obtain ⟨d', rfl, h2⟩ := hc d hd
    refine ⟨d', ?_, h2⟩
    rw [get_of, List.getElem?_set_self (by rw [h.len]; omega)]
   ·simp at hd
  ·rename_i e
   obtain ⟨d', h1, h2⟩ := h.get j d (get_of.2 hd)
   refine ⟨d', ?_, h2⟩
   rw [get_of] at h1 ⊢
   rw [List.getElem?_set_ne (by omega)]; exact h1
 ·rw [List.getElem?_set_ne (by omega)]
theorem HSh.put {H B H' : Heap} (h : HSh k H B) {lo lo' i off : Nat} (hlo : lo' ≤ k + lo) {vs vs' : List Value} (hv : LSh k vs vs') (hp : H.put lo i off vs = some H') : ∃ B', B.put lo' (k + i) off vs' = some B' ∧ MSh k B H' B' := by
 unfold Heap.put at hp ⊢
 split at hp
 ·rename_i c hc
  obtain ⟨c', h1, h2⟩ := h.get i c hc
  rw [h1]
  split at hp
  ·rename_i hle
   simp at hp; subst hp
   simp only
   rw [if_pos ⟨by omega, by rw [← hv.1, ← h2.1]; exact hle.2⟩]
   refine ⟨_, rfl, h.setB fun d hd => ?_⟩
   cases hd
   exact ⟨_, rfl, h2.putCells hv off⟩
  ·simp at hp
 ·simp at hp
theorem LSh.replicate {z : List Value} (hz : LSh k z z) : ∀ n, LSh k (zeros z n) (zeros z n)
 | 0 => by simp [zeros]; exact LSh.nil
 | n + 1 => by
  have := LSh.replicate hz n
  unfold zeros at this ⊢
  rw [List.replicate_succ, List.flatten_cons]
  exact hz.append this
theorem LSh.bytes (l : List UInt8) : LSh k (l.map fun b => Value.int .u8 b.toNat) (l.map fun b => Value.int .u8 b.toNat) := by
 induction l with
 | nil => exact LSh.nil
 | cons a l ih => exact LSh.cons (.int _ _) ih
end
end Go.Abs
