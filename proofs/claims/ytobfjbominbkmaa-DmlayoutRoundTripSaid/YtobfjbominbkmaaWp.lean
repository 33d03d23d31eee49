/-
  Extract of the code: what it answers.
-/
import Derived.Test.YtobfjbominbkmaaWo
namespace Go.Proofs.Ytobfjbominbkmaa
open Go.Abs
set_option linter.unusedSimpArgs false
set_option linter.unusedVariables false
set_option maxRecDepth 20000
def validM (w h : Int) (n : Nat) : Bool := ((((decide (1 ≤ w) && decide (w ≤ 4096)) && decide (1 ≤ h)) && decide (h ≤ 4096)) && decide (IntKind.i64.wrap (w * h) ≤ 4194304)) && decide ((n : Int) = IntKind.i64.wrap (w * h))
theorem validM_len {w h : Int} {n : Nat} (hv : validM w h n = true) : (n : Int) = w * h ∧ 1 ≤ w ∧ w ≤ 4096 ∧ 1 ≤ h ∧ h ≤ 4096 := by
  simp only [validM, Bool.and_eq_true, decide_eq_true_eq] at hv
  obtain ⟨⟨⟨⟨⟨a, b⟩, c⟩, d⟩, e⟩, f⟩ := hv
  have hm := mul_bd (a := w) (b := h) (A := 4096) (B := 4096) (by omega) (by omega) (by omega) (by omega) (by omega)
  rw [wrap_i64 (by omega) (by omega)] at f
  exact ⟨f, a, b, c, d⟩
theorem valid35 {lo : Nat} {H : Heap} {w h : Int} {ad : Option Addr} {n c : Nat} : Ev cp lo 35 [.agg #[.int .i64 w, .int .i64 h, .slice ad n c]] H (fun v H' => Ext H H' ∧ v = .bool (validM w h n)) := by
  refine st35 ?_; unfold bd35; (try simp only [ctlB])
  repeat' (first | (refine aw_sets (by simp (disch := first | omega | (simp only [lenB]; omega)) only [evB, Sz.cells, Sz.val, Int.cast_ofNat_Int, *]; rfl) (by simp (disch := first | omega | (simp only [lenB]; omega)) only [evB, Sz.cells, Sz.val, Int.cast_ofNat_Int, *]) (by simp (disch := first | omega | (simp only [lenB]; omega)) only [evB, Sz.cells, Sz.val, Int.cast_ofNat_Int, *]; rfl) ?_; (try simp only [ctlB])) | (refine aw_op rfl (by simp (disch := first | omega | (simp only [lenB]; omega)) only [evB, Sz.cells, Sz.val, Int.cast_ofNat_Int, *]; rfl) (by simp (disch := first | omega | (simp only [lenB]; omega)) only [evB, Sz.cells, Sz.val, Int.cast_ofNat_Int, *]) (by simp (disch := first | omega | (simp only [lenB]; omega)) only [evB, Sz.cells, Sz.val, Int.cast_ofNat_Int, *]; rfl) (by simp (disch := first | omega | (simp only [lenB]; omega)) only [evB, Sz.cells, Sz.val, Int.cast_ofNat_Int, *]; rfl) (by simp (disch := first | omega | (simp only [lenB]; omega)) only [evB, Sz.cells, Sz.val, Int.cast_ofNat_Int, *]; rfl) ?_; (try simp only [ctlB])))
  refine body_ret (by simp only [cf35]; simp (disch := first | omega | (simp only [lenB]; omega)) only [evB, Sz.cells, Sz.val, Int.cast_ofNat_Int, *]; rfl) ?_
  exact ⟨Ext.app _ _, rfl⟩
theorem valid38 {lo : Nat} {H : Heap} {w h : Int} {ad : Option Addr} {n c : Nat} : Ev cp lo 38 [.agg #[.int .i64 w, .int .i64 h, .slice ad n c]] H (fun v H' => Ext H H' ∧ v = .bool (validM w h n)) := by
  refine st38 ?_; unfold bd38; (try simp only [ctlB])
  repeat' (first | (refine aw_sets (by simp (disch := first | omega | (simp only [lenB]; omega)) only [evB, Sz.cells, Sz.val, Int.cast_ofNat_Int, *]; rfl) (by simp (disch := first | omega | (simp only [lenB]; omega)) only [evB, Sz.cells, Sz.val, Int.cast_ofNat_Int, *]) (by simp (disch := first | omega | (simp only [lenB]; omega)) only [evB, Sz.cells, Sz.val, Int.cast_ofNat_Int, *]; rfl) ?_; (try simp only [ctlB])) | (refine aw_op rfl (by simp (disch := first | omega | (simp only [lenB]; omega)) only [evB, Sz.cells, Sz.val, Int.cast_ofNat_Int, *]; rfl) (by simp (disch := first | omega | (simp only [lenB]; omega)) only [evB, Sz.cells, Sz.val, Int.cast_ofNat_Int, *]) (by simp (disch := first | omega | (simp only [lenB]; omega)) only [evB, Sz.cells, Sz.val, Int.cast_ofNat_Int, *]; rfl) (by simp (disch := first | omega | (simp only [lenB]; omega)) only [evB, Sz.cells, Sz.val, Int.cast_ofNat_Int, *]; rfl) (by simp (disch := first | omega | (simp only [lenB]; omega)) only [evB, Sz.cells, Sz.val, Int.cast_ofNat_Int, *]; rfl) ?_; (try simp only [ctlB])))
  refine body_ret (by simp only [cf38]; simp (disch := first | omega | (simp only [lenB]; omega)) only [evB, Sz.cells, Sz.val, Int.cast_ofNat_Int, *]; rfl) ?_
  exact ⟨Ext.app _ _, rfl⟩
def isSz (w h : Int) (s : Sz) : Bool := decide (s.r = h) && decide (s.c = w)
def findSz (w h : Int) : Option Sz := szs.find? (isSz w h)
theorem szs_split {i : Nat} (h : i < 30) : szs = szs.take i ++ szAt i :: szs.drop (i + 1) := by
  have e : szs[i]'(by rw [szs_len]; exact h) = szAt i := by
    unfold szAt
    rw [List.getD_eq_getElem?_getD, List.getElem?_eq_getElem (by rw [szs_len]; exact h)]; rfl
  rw [← e, ← List.drop_eq_getElem_cons, List.take_append_drop]
theorem find_at {w h : Int} {i : Nat} (hi : i < 30) (hno : (szs.take i).any (isSz w h) = false) (hy : isSz w h (szAt i) = true) : findSz w h = some (szAt i) := by
  unfold findSz
  rw [szs_split hi, List.find?_append]
  have : (szs.take i).find? (isSz w h) = none := by
    rw [List.find?_eq_none]
    intro s hs
    have := List.any_eq_false.1 hno s hs
    simpa using this
  rw [this]
  simp [hy]
theorem find_none {w h : Int} (hno : szs.any (isSz w h) = false) : findSz w h = none := by
  unfold findSz
  rw [List.find?_eq_none]
  intro s hs
  simpa using List.any_eq_false.1 hno s hs
theorem find_some {w h : Int} {s : Sz} (hf : findSz w h = some s) : s ∈ szs ∧ s.r = h ∧ s.c = w := by
  have h1 := List.mem_of_find?_eq_some hf
  have h2 := List.find?_some hf
  simp only [isSz, Bool.and_eq_true, decide_eq_true_eq] at h2
  exact ⟨h1, h2⟩
theorem any_szs_succ {p : Sz → Bool} {i : Nat} (h : i < 30) : (szs.take (i + 1)).any p = ((szs.take i).any p || p (szAt i)) := by
  rw [take_succ_sz h, List.any_append]; simp
theorem clos37 {lo : Nat} {H : Heap} {w h : Int} {v : Value} {s : Sz} {p : Nat} (g : H.get p = some [.int .i64 w, .int .i64 h, v]) : Ev cp lo 37 [s.val, .pointer (some ⟨p, 0, none⟩)] H (fun v H' => Ext H H' ∧ v = .bool (isSz w h s)) := by
  have hp := Heap.get_lt g
  refine st37 ?_; unfold bd37; (try simp only [ctlB])
  repeat' (first | (refine aw_sets (by simp (disch := first | omega | (simp only [lenB]; omega)) only [evB, Sz.cells, Sz.val, Int.cast_ofNat_Int, *]; rfl) (by simp (disch := first | omega | (simp only [lenB]; omega)) only [evB, Sz.cells, Sz.val, Int.cast_ofNat_Int, *]) (by simp (disch := first | omega | (simp only [lenB]; omega)) only [evB, Sz.cells, Sz.val, Int.cast_ofNat_Int, *]; rfl) ?_; (try simp only [ctlB])) | (refine aw_op rfl (by simp (disch := first | omega | (simp only [lenB]; omega)) only [evB, Sz.cells, Sz.val, Int.cast_ofNat_Int, *]; rfl) (by simp (disch := first | omega | (simp only [lenB]; omega)) only [evB, Sz.cells, Sz.val, Int.cast_ofNat_Int, *]) (by simp (disch := first | omega | (simp only [lenB]; omega)) only [evB, Sz.cells, Sz.val, Int.cast_ofNat_Int, *]; rfl) (by simp (disch := first | omega | (simp only [lenB]; omega)) only [evB, Sz.cells, Sz.val, Int.cast_ofNat_Int, *]; rfl) (by simp (disch := first | omega | (simp only [lenB]; omega)) only [evB, Sz.cells, Sz.val, Int.cast_ofNat_Int, *]; rfl) ?_; (try simp only [ctlB])))
  refine body_ret (by simp only [cf37]; simp (disch := first | omega | (simp only [lenB]; omega)) only [evB, Sz.cells, Sz.val, Int.cast_ofNat_Int, *]; rfl) ?_
  exact ⟨Ext.app _ _, rfl⟩
theorem index36 {lo : Nat} {H : Heap} {w h : Int} {v : Value} {p j : Nat} (g : H.get p = some [.int .i64 w, .int .i64 h, v]) (hg : H.get j = some szCells) :
    Ev cp lo 36 [.slice (some ⟨j, 0, none⟩) 30 30, .func (.func 37) #[] #[.pointer (some ⟨p, 0, none⟩)]] H (fun v H' => Ext H H' ∧ ((findSz w h = none ∧ v = .int .i64 (-1)) ∨ ∃ i : Nat, i < 30 ∧ v = .int .i64 i ∧ findSz w h = some (szAt i))) := by
  refine st36 ?_; unfold bd36; (try simp only [ctlB])
  repeat' (first | (refine aw_sets (by simp (disch := first | omega | (simp only [lenB]; omega)) only [evB, Sz.cells, Sz.val, Int.cast_ofNat_Int, *]; rfl) (by simp (disch := first | omega | (simp only [lenB]; omega)) only [evB, Sz.cells, Sz.val, Int.cast_ofNat_Int, *]) (by simp (disch := first | omega | (simp only [lenB]; omega)) only [evB, Sz.cells, Sz.val, Int.cast_ofNat_Int, *]; rfl) ?_; (try simp only [ctlB])) | (refine aw_op rfl (by simp (disch := first | omega | (simp only [lenB]; omega)) only [evB, Sz.cells, Sz.val, Int.cast_ofNat_Int, *]; rfl) (by simp (disch := first | omega | (simp only [lenB]; omega)) only [evB, Sz.cells, Sz.val, Int.cast_ofNat_Int, *]) (by simp (disch := first | omega | (simp only [lenB]; omega)) only [evB, Sz.cells, Sz.val, Int.cast_ofNat_Int, *]; rfl) (by simp (disch := first | omega | (simp only [lenB]; omega)) only [evB, Sz.cells, Sz.val, Int.cast_ofNat_Int, *]; rfl) (by simp (disch := first | omega | (simp only [lenB]; omega)) only [evB, Sz.cells, Sz.val, Int.cast_ofNat_Int, *]; rfl) ?_; (try simp only [ctlB])))
  refine aw_for (fun i S H' => Ext H H' ∧ (szs.take i).any (isSz w h) = false ∧ ∃ z2 z3 z6, S = [.slice (some ⟨j, 0, none⟩) 30 30, .func (.func 37) #[] #[.pointer (some ⟨p, 0, none⟩)], z2, z3, .int .i64 30, .int .i64 (i : Nat), z6]) 30 ?_ ?_ ?_ ?_
  · exact ⟨Ext.refl _, rfl, _, _, _,  rfl⟩
  · rintro i S H' hi ⟨hx, -, z2, z3, z6,  rfl⟩
    exact ⟨_, by simp (disch := first | omega | (simp only [lenB]; omega)) only [evB, Sz.cells, Sz.val, Int.cast_ofNat_Int, *]; rfl, by simp; try omega⟩
  · rintro i S H1 hi ⟨hx, hno, z2, z3, z6,  rfl⟩
    have g := hx.get g
    have hg := hx.get hg
    have hrow := szCells_at hi
    have hlen := szCells_len
    have hsucc := any_szs_succ (p := isSz w h) hi
    rw [hno, Bool.false_or] at hsucc
    (try simp only [ctlB])
    repeat' (first | (refine aw_sets (by simp (disch := first | omega | (simp only [lenB]; omega)) only [evB, Sz.cells, Sz.val, Int.cast_ofNat_Int, *]; rfl) (by simp (disch := first | omega | (simp only [lenB]; omega)) only [evB, Sz.cells, Sz.val, Int.cast_ofNat_Int, *]) (by simp (disch := first | omega | (simp only [lenB]; omega)) only [evB, Sz.cells, Sz.val, Int.cast_ofNat_Int, *]; rfl) ?_; (try simp only [ctlB])) | (refine aw_op rfl (by simp (disch := first | omega | (simp only [lenB]; omega)) only [evB, Sz.cells, Sz.val, Int.cast_ofNat_Int, *]; rfl) (by simp (disch := first | omega | (simp only [lenB]; omega)) only [evB, Sz.cells, Sz.val, Int.cast_ofNat_Int, *]) (by simp (disch := first | omega | (simp only [lenB]; omega)) only [evB, Sz.cells, Sz.val, Int.cast_ofNat_Int, *]; rfl) (by simp (disch := first | omega | (simp only [lenB]; omega)) only [evB, Sz.cells, Sz.val, Int.cast_ofNat_Int, *]; rfl) (by simp (disch := first | omega | (simp only [lenB]; omega)) only [evB, Sz.cells, Sz.val, Int.cast_ofNat_Int, *]; rfl) ?_; (try simp only [ctlB])))
    refine aw_hv (by simp (disch := first | omega | (simp only [lenB]; omega)) only [evB, Sz.cells, Sz.val, Int.cast_ofNat_Int, *]; rfl) (by simp (disch := first | omega | (simp only [lenB]; omega)) only [evB, Sz.cells, Sz.val, Int.cast_ofNat_Int, *]) (by simp (disch := first | omega | (simp only [lenB]; omega)) only [evB, Sz.cells, Sz.val, Int.cast_ofNat_Int, *]; rfl) ?_
    refine wpH_call0 (clos37 (s := szAt i) g) ?_
    rintro v1 H2 ⟨hx2, rfl⟩
    clear hrow hlen
    (try simp only [ctlB])
    refine aw_cond (by simp (disch := first | omega | (simp only [lenB]; omega)) only [evB, Sz.cells, Sz.val, Int.cast_ofNat_Int, *]; rfl) (fun h => ?_) (fun h => ?_)
    · have hf := find_at hi hno h
      clear hsucc
      (try simp only [ctlB])
      repeat' (first | (refine aw_sets (by simp (disch := first | omega | (simp only [lenB]; omega)) only [evB, Sz.cells, Sz.val, Int.cast_ofNat_Int, *]; rfl) (by simp (disch := first | omega | (simp only [lenB]; omega)) only [evB, Sz.cells, Sz.val, Int.cast_ofNat_Int, *]) (by simp (disch := first | omega | (simp only [lenB]; omega)) only [evB, Sz.cells, Sz.val, Int.cast_ofNat_Int, *]; rfl) ?_; (try simp only [ctlB])) | (refine aw_op rfl (by simp (disch := first | omega | (simp only [lenB]; omega)) only [evB, Sz.cells, Sz.val, Int.cast_ofNat_Int, *]; rfl) (by simp (disch := first | omega | (simp only [lenB]; omega)) only [evB, Sz.cells, Sz.val, Int.cast_ofNat_Int, *]) (by simp (disch := first | omega | (simp only [lenB]; omega)) only [evB, Sz.cells, Sz.val, Int.cast_ofNat_Int, *]; rfl) (by simp (disch := first | omega | (simp only [lenB]; omega)) only [evB, Sz.cells, Sz.val, Int.cast_ofNat_Int, *]; rfl) (by simp (disch := first | omega | (simp only [lenB]; omega)) only [evB, Sz.cells, Sz.val, Int.cast_ofNat_Int, *]; rfl) ?_; (try simp only [ctlB])))
      refine body_ret (by simp only [cf36]; simp (disch := first | omega | (simp only [lenB]; omega)) only [evB, Sz.cells, Sz.val, Int.cast_ofNat_Int, *]; rfl) ?_
      exact ⟨hx.trans hx2, .inr ⟨i, hi, rfl, hf⟩⟩
    · rw [h] at hsucc
      clear h
      (try simp only [ctlB])
      repeat' (first | (refine aw_sets (by simp (disch := first | omega | (simp only [lenB]; omega)) only [evB, Sz.cells, Sz.val, Int.cast_ofNat_Int, *]; rfl) (by simp (disch := first | omega | (simp only [lenB]; omega)) only [evB, Sz.cells, Sz.val, Int.cast_ofNat_Int, *]) (by simp (disch := first | omega | (simp only [lenB]; omega)) only [evB, Sz.cells, Sz.val, Int.cast_ofNat_Int, *]; rfl) ?_; (try simp only [ctlB])) | (refine aw_op rfl (by simp (disch := first | omega | (simp only [lenB]; omega)) only [evB, Sz.cells, Sz.val, Int.cast_ofNat_Int, *]; rfl) (by simp (disch := first | omega | (simp only [lenB]; omega)) only [evB, Sz.cells, Sz.val, Int.cast_ofNat_Int, *]) (by simp (disch := first | omega | (simp only [lenB]; omega)) only [evB, Sz.cells, Sz.val, Int.cast_ofNat_Int, *]; rfl) (by simp (disch := first | omega | (simp only [lenB]; omega)) only [evB, Sz.cells, Sz.val, Int.cast_ofNat_Int, *]; rfl) (by simp (disch := first | omega | (simp only [lenB]; omega)) only [evB, Sz.cells, Sz.val, Int.cast_ofNat_Int, *]; rfl) ?_; (try simp only [ctlB])))
      exact ⟨hx.trans hx2, hsucc, _, _, _,  by first | rfl | (simp only [Int.natCast_add, Int.natCast_one]; rfl) | simp only [Int.natCast_add, Int.natCast_one]⟩
  · rintro S H1 ⟨hx, hno, z2, z3, z6,  rfl⟩
    have hf := find_none hno
    (try simp only [ctlB])
    repeat' (first | (refine aw_sets (by simp (disch := first | omega | (simp only [lenB]; omega)) only [evB, Sz.cells, Sz.val, Int.cast_ofNat_Int, *]; rfl) (by simp (disch := first | omega | (simp only [lenB]; omega)) only [evB, Sz.cells, Sz.val, Int.cast_ofNat_Int, *]) (by simp (disch := first | omega | (simp only [lenB]; omega)) only [evB, Sz.cells, Sz.val, Int.cast_ofNat_Int, *]; rfl) ?_; (try simp only [ctlB])) | (refine aw_op rfl (by simp (disch := first | omega | (simp only [lenB]; omega)) only [evB, Sz.cells, Sz.val, Int.cast_ofNat_Int, *]; rfl) (by simp (disch := first | omega | (simp only [lenB]; omega)) only [evB, Sz.cells, Sz.val, Int.cast_ofNat_Int, *]) (by simp (disch := first | omega | (simp only [lenB]; omega)) only [evB, Sz.cells, Sz.val, Int.cast_ofNat_Int, *]; rfl) (by simp (disch := first | omega | (simp only [lenB]; omega)) only [evB, Sz.cells, Sz.val, Int.cast_ofNat_Int, *]; rfl) (by simp (disch := first | omega | (simp only [lenB]; omega)) only [evB, Sz.cells, Sz.val, Int.cast_ofNat_Int, *]; rfl) ?_; (try simp only [ctlB])))
    refine body_ret (by simp only [cf36]; simp (disch := first | omega | (simp only [lenB]; omega)) only [evB, Sz.cells, Sz.val, Int.cast_ofNat_Int, *]; rfl) ?_
    exact ⟨hx, .inl ⟨hf, rfl⟩⟩
/-- what Extract answers -/
def ExtOut (w h : Int) (dk : List Bool) (H' : Heap) (r : Value) : Prop :=
  (validM w h dk.length = false ∧ r = .tuple #[.slice none 0 0, Sz.zero.val, .int .i64 1]) ∨
  (validM w h dk.length = true ∧ findSz w h = none ∧ r = .tuple #[.slice none 0 0, Sz.zero.val, .int .i64 23]) ∨
  (validM w h dk.length = true ∧ ∃ s, findSz w h = some s ∧ badPat s dk dk.length = true ∧ r = .tuple #[.slice none 0 0, Sz.zero.val, .int .i64 18]) ∨
  (validM w h dk.length = true ∧ ∃ s gf v xs, findSz w h = some s ∧ SizeOrd s gf ∧ badPat s dk dk.length = false ∧ WB (s.d + s.k).toNat (seen (exP s gf.cells dk) dk.length) xs ∧ r = .tuple #[v, s.val, .int .i64 0] ∧ WordsX H' v xs)
set_option maxHeartbeats 8000000 in
theorem extract22 {lo : Nat} {H : Heap} {vd : Value} {dk : List Bool} {w u : Int} (hlo : lo ≤ H.length) (hd : SlB H vd dk) : Ev cp lo 22 [.agg #[.int .i64 w, .int .i64 u, vd]] H (fun r H' => Ext H H' ∧ ExtOut w u dk H' r) := by
  have hd0 := hd
  obtain ⟨ad, cd, rfl⟩ := hd.len
  refine st22 ?_; unfold bd22; (try simp only [ctlB])
  repeat' (first | (refine aw_sets (by simp (disch := first | omega | (simp only [lenB]; omega)) only [evB, Sz.cells, Sz.val, Int.cast_ofNat_Int, *]; rfl) (by simp (disch := first | omega | (simp only [lenB]; omega)) only [evB, Sz.cells, Sz.val, Int.cast_ofNat_Int, *]) (by simp (disch := first | omega | (simp only [lenB]; omega)) only [evB, Sz.cells, Sz.val, Int.cast_ofNat_Int, *]; rfl) ?_; (try simp only [ctlB])) | (refine aw_op rfl (by simp (disch := first | omega | (simp only [lenB]; omega)) only [evB, Sz.cells, Sz.val, Int.cast_ofNat_Int, *]; rfl) (by simp (disch := first | omega | (simp only [lenB]; omega)) only [evB, Sz.cells, Sz.val, Int.cast_ofNat_Int, *]) (by simp (disch := first | omega | (simp only [lenB]; omega)) only [evB, Sz.cells, Sz.val, Int.cast_ofNat_Int, *]; rfl) (by simp (disch := first | omega | (simp only [lenB]; omega)) only [evB, Sz.cells, Sz.val, Int.cast_ofNat_Int, *]; rfl) (by simp (disch := first | omega | (simp only [lenB]; omega)) only [evB, Sz.cells, Sz.val, Int.cast_ofNat_Int, *]; rfl) ?_; (try simp only [ctlB])))
  refine aw_hv (by simp (disch := first | omega | (simp only [lenB]; omega)) only [evB, Sz.cells, Sz.val, Int.cast_ofNat_Int, *]; rfl) (by simp (disch := first | omega | (simp only [lenB]; omega)) only [evB, Sz.cells, Sz.val, Int.cast_ofNat_Int, *]) (by simp (disch := first | omega | (simp only [lenB]; omega)) only [evB, Sz.cells, Sz.val, Int.cast_ofNat_Int, *]; rfl) ?_
  refine wpH_call0 valid35 ?_
  rintro v H1 ⟨hx1, rfl⟩
  have g0 : H1.get H.length = some _ := hx1.get (by simp (disch := first | omega | (simp only [lenB]; omega)) only [evB, Sz.cells, Sz.val, Int.cast_ofNat_Int, *]; rfl)
  have g1 : H1.get (H.length + 1) = some _ := hx1.get (by simp (disch := first | omega | (simp only [lenB]; omega)) only [evB, Sz.cells, Sz.val, Int.cast_ofNat_Int, *]; rfl)
  have hl1 := Heap.get_lt g1
  have hx1 := hx1.of_app
  (try simp only [ctlB])
  refine aw_cond (by simp (disch := first | omega | (simp only [lenB]; omega)) only [evB, Sz.cells, Sz.val, Int.cast_ofNat_Int, *]; rfl) (fun h => ?_) (fun h => ?_)
  · have hv : validM w u dk.length = false := by simpa using h
    clear h
    (try simp only [ctlB])
    repeat' (first | (refine aw_sets (by simp (disch := first | omega | (simp only [lenB]; omega)) only [evB, Sz.cells, Sz.val, Int.cast_ofNat_Int, *]; rfl) (by simp (disch := first | omega | (simp only [lenB]; omega)) only [evB, Sz.cells, Sz.val, Int.cast_ofNat_Int, *]) (by simp (disch := first | omega | (simp only [lenB]; omega)) only [evB, Sz.cells, Sz.val, Int.cast_ofNat_Int, *]; rfl) ?_; (try simp only [ctlB])) | (refine aw_op rfl (by simp (disch := first | omega | (simp only [lenB]; omega)) only [evB, Sz.cells, Sz.val, Int.cast_ofNat_Int, *]; rfl) (by simp (disch := first | omega | (simp only [lenB]; omega)) only [evB, Sz.cells, Sz.val, Int.cast_ofNat_Int, *]) (by simp (disch := first | omega | (simp only [lenB]; omega)) only [evB, Sz.cells, Sz.val, Int.cast_ofNat_Int, *]; rfl) (by simp (disch := first | omega | (simp only [lenB]; omega)) only [evB, Sz.cells, Sz.val, Int.cast_ofNat_Int, *]; rfl) (by simp (disch := first | omega | (simp only [lenB]; omega)) only [evB, Sz.cells, Sz.val, Int.cast_ofNat_Int, *]; rfl) ?_; (try simp only [ctlB])))
    refine body_ret (by simp only [cf22]; simp (disch := first | omega | (simp only [lenB]; omega)) only [evB, Sz.cells, Sz.val, Int.cast_ofNat_Int, *]; rfl) ?_
    exact ⟨hx1.set (by omega), .inl ⟨hv, rfl⟩⟩
  have hv : validM w u dk.length = true := by simpa using h
  clear h
  (try simp only [ctlB])
  refine aw_hv (by simp (disch := first | omega | (simp only [lenB]; omega)) only [evB, Sz.cells, Sz.val, Int.cast_ofNat_Int, *]; rfl) (by simp (disch := first | omega | (simp only [lenB]; omega)) only [evB, Sz.cells, Sz.val, Int.cast_ofNat_Int, *]) (by simp (disch := first | omega | (simp only [lenB]; omega)) only [evB, Sz.cells, Sz.val, Int.cast_ofNat_Int, *]; rfl) ?_
  refine wpH_call0 (sizes10 (by omega)) ?_
  rintro v H2 ⟨j, hj, rfl, hg, hx2⟩
  have g0 := (hx2).get g0; have g1 := (hx2).get g1
  have hx2 := hx1.trans hx2
  (try simp only [ctlB])
  repeat' (first | (refine aw_sets (by simp (disch := first | omega | (simp only [lenB]; omega)) only [evB, Sz.cells, Sz.val, Int.cast_ofNat_Int, *]; rfl) (by simp (disch := first | omega | (simp only [lenB]; omega)) only [evB, Sz.cells, Sz.val, Int.cast_ofNat_Int, *]) (by simp (disch := first | omega | (simp only [lenB]; omega)) only [evB, Sz.cells, Sz.val, Int.cast_ofNat_Int, *]; rfl) ?_; (try simp only [ctlB])) | (refine aw_op rfl (by simp (disch := first | omega | (simp only [lenB]; omega)) only [evB, Sz.cells, Sz.val, Int.cast_ofNat_Int, *]; rfl) (by simp (disch := first | omega | (simp only [lenB]; omega)) only [evB, Sz.cells, Sz.val, Int.cast_ofNat_Int, *]) (by simp (disch := first | omega | (simp only [lenB]; omega)) only [evB, Sz.cells, Sz.val, Int.cast_ofNat_Int, *]; rfl) (by simp (disch := first | omega | (simp only [lenB]; omega)) only [evB, Sz.cells, Sz.val, Int.cast_ofNat_Int, *]; rfl) (by simp (disch := first | omega | (simp only [lenB]; omega)) only [evB, Sz.cells, Sz.val, Int.cast_ofNat_Int, *]; rfl) ?_; (try simp only [ctlB])))
  refine aw_hv (by simp (disch := first | omega | (simp only [lenB]; omega)) only [evB, Sz.cells, Sz.val, Int.cast_ofNat_Int, *]; rfl) (by simp (disch := first | omega | (simp only [lenB]; omega)) only [evB, Sz.cells, Sz.val, Int.cast_ofNat_Int, *]) (by simp (disch := first | omega | (simp only [lenB]; omega)) only [evB, Sz.cells, Sz.val, Int.cast_ofNat_Int, *]; rfl) ?_
  refine wpH_call0 (index36 g0 hg) ?_
  rintro v H3 ⟨hx3, hc⟩
  have g0 := (hx3).get g0; have g1 := (hx3).get g1; have hg := (hx3).get hg
  have hx3 := hx2.trans hx3
  have hl3 := Heap.get_lt g1
  have hjl := Heap.get_lt hg
  clear hx1 hx2
  rcases hc with ⟨hf, rfl⟩ | ⟨i0, hi0, rfl, hf⟩
  · (try simp only [ctlB])
    repeat' (first | (refine aw_sets (by simp (disch := first | omega | (simp only [lenB]; omega)) only [evB, Sz.cells, Sz.val, Int.cast_ofNat_Int, *]; rfl) (by simp (disch := first | omega | (simp only [lenB]; omega)) only [evB, Sz.cells, Sz.val, Int.cast_ofNat_Int, *]) (by simp (disch := first | omega | (simp only [lenB]; omega)) only [evB, Sz.cells, Sz.val, Int.cast_ofNat_Int, *]; rfl) ?_; (try simp only [ctlB])) | (refine aw_op rfl (by simp (disch := first | omega | (simp only [lenB]; omega)) only [evB, Sz.cells, Sz.val, Int.cast_ofNat_Int, *]; rfl) (by simp (disch := first | omega | (simp only [lenB]; omega)) only [evB, Sz.cells, Sz.val, Int.cast_ofNat_Int, *]) (by simp (disch := first | omega | (simp only [lenB]; omega)) only [evB, Sz.cells, Sz.val, Int.cast_ofNat_Int, *]; rfl) (by simp (disch := first | omega | (simp only [lenB]; omega)) only [evB, Sz.cells, Sz.val, Int.cast_ofNat_Int, *]; rfl) (by simp (disch := first | omega | (simp only [lenB]; omega)) only [evB, Sz.cells, Sz.val, Int.cast_ofNat_Int, *]; rfl) ?_; (try simp only [ctlB])))
    refine aw_cond (by simp (disch := first | omega | (simp only [lenB]; omega)) only [evB, Sz.cells, Sz.val, Int.cast_ofNat_Int, *]; rfl) (fun h => ?_) (fun h => ?_)
    · clear h
      (try simp only [ctlB])
      repeat' (first | (refine aw_sets (by simp (disch := first | omega | (simp only [lenB]; omega)) only [evB, Sz.cells, Sz.val, Int.cast_ofNat_Int, *]; rfl) (by simp (disch := first | omega | (simp only [lenB]; omega)) only [evB, Sz.cells, Sz.val, Int.cast_ofNat_Int, *]) (by simp (disch := first | omega | (simp only [lenB]; omega)) only [evB, Sz.cells, Sz.val, Int.cast_ofNat_Int, *]; rfl) ?_; (try simp only [ctlB])) | (refine aw_op rfl (by simp (disch := first | omega | (simp only [lenB]; omega)) only [evB, Sz.cells, Sz.val, Int.cast_ofNat_Int, *]; rfl) (by simp (disch := first | omega | (simp only [lenB]; omega)) only [evB, Sz.cells, Sz.val, Int.cast_ofNat_Int, *]) (by simp (disch := first | omega | (simp only [lenB]; omega)) only [evB, Sz.cells, Sz.val, Int.cast_ofNat_Int, *]; rfl) (by simp (disch := first | omega | (simp only [lenB]; omega)) only [evB, Sz.cells, Sz.val, Int.cast_ofNat_Int, *]; rfl) (by simp (disch := first | omega | (simp only [lenB]; omega)) only [evB, Sz.cells, Sz.val, Int.cast_ofNat_Int, *]; rfl) ?_; (try simp only [ctlB])))
      refine body_ret (by simp only [cf22]; simp (disch := first | omega | (simp only [lenB]; omega)) only [evB, Sz.cells, Sz.val, Int.cast_ofNat_Int, *]; rfl) ?_
      exact ⟨hx3.set (by omega), .inr (.inl ⟨hv, hf, rfl⟩)⟩
    · simp at h
  have hrow := szCells_at hi0
  have hlen := szCells_len
  generalize szAt i0 = s at *
  obtain ⟨hsm, hh, hw⟩ := find_some hf
  subst hh
  subst hw
  have hok := szs_ok s hsm
  have hok' := hok
  obtain ⟨r0, r1, c0, c1, rr0, rr1, rc0, rc1, d0, d1, k0, k1⟩ := hok'
  obtain ⟨gf, hso⟩ := so_all s hsm
  obtain ⟨hdn, -⟩ := validM_len hv
  rw [Int.mul_comm] at hdn
  have hdn' : (dk.length : Int) ≤ s.r * s.c ∧ s.r * s.c ≤ dk.length := by omega
  clear hdn
  (try simp only [ctlB])
  repeat' (first | (refine aw_sets (by simp (disch := first | omega | (simp only [lenB]; omega)) only [evB, Sz.cells, Sz.val, Int.cast_ofNat_Int, *]; rfl) (by simp (disch := first | omega | (simp only [lenB]; omega)) only [evB, Sz.cells, Sz.val, Int.cast_ofNat_Int, *]) (by simp (disch := first | omega | (simp only [lenB]; omega)) only [evB, Sz.cells, Sz.val, Int.cast_ofNat_Int, *]; rfl) ?_; (try simp only [ctlB])) | (refine aw_op rfl (by simp (disch := first | omega | (simp only [lenB]; omega)) only [evB, Sz.cells, Sz.val, Int.cast_ofNat_Int, *]; rfl) (by simp (disch := first | omega | (simp only [lenB]; omega)) only [evB, Sz.cells, Sz.val, Int.cast_ofNat_Int, *]) (by simp (disch := first | omega | (simp only [lenB]; omega)) only [evB, Sz.cells, Sz.val, Int.cast_ofNat_Int, *]; rfl) (by simp (disch := first | omega | (simp only [lenB]; omega)) only [evB, Sz.cells, Sz.val, Int.cast_ofNat_Int, *]; rfl) (by simp (disch := first | omega | (simp only [lenB]; omega)) only [evB, Sz.cells, Sz.val, Int.cast_ofNat_Int, *]; rfl) ?_; (try simp only [ctlB])))
  refine aw_cond (by simp (disch := first | omega | (simp only [lenB]; omega)) only [evB, Sz.cells, Sz.val, Int.cast_ofNat_Int, *]; rfl) (fun h => ?_) (fun h => ?_)
  · simp at h; omega
  clear h
  (try simp only [ctlB])
  repeat' (first | (refine aw_sets (by simp (disch := first | omega | (simp only [lenB]; omega)) only [evB, Sz.cells, Sz.val, Int.cast_ofNat_Int, *]; rfl) (by simp (disch := first | omega | (simp only [lenB]; omega)) only [evB, Sz.cells, Sz.val, Int.cast_ofNat_Int, *]) (by simp (disch := first | omega | (simp only [lenB]; omega)) only [evB, Sz.cells, Sz.val, Int.cast_ofNat_Int, *]; rfl) ?_; (try simp only [ctlB])) | (refine aw_op rfl (by simp (disch := first | omega | (simp only [lenB]; omega)) only [evB, Sz.cells, Sz.val, Int.cast_ofNat_Int, *]; rfl) (by simp (disch := first | omega | (simp only [lenB]; omega)) only [evB, Sz.cells, Sz.val, Int.cast_ofNat_Int, *]) (by simp (disch := first | omega | (simp only [lenB]; omega)) only [evB, Sz.cells, Sz.val, Int.cast_ofNat_Int, *]; rfl) (by simp (disch := first | omega | (simp only [lenB]; omega)) only [evB, Sz.cells, Sz.val, Int.cast_ofNat_Int, *]; rfl) (by simp (disch := first | omega | (simp only [lenB]; omega)) only [evB, Sz.cells, Sz.val, Int.cast_ofNat_Int, *]; rfl) ?_; (try simp only [ctlB])))
  have g7 : Heap.get (H3 ++ [some s.cells]) H3.length = some s.cells := get_app0
  refine aw_hv (by simp (disch := first | omega | (simp only [lenB]; omega)) only [evB, Sz.cells, Sz.val, Int.cast_ofNat_Int, *]; rfl) (by simp (disch := first | omega | (simp only [lenB]; omega)) only [evB, Sz.cells, Sz.val, Int.cast_ofNat_Int, *]) (by simp (disch := first | omega | (simp only [lenB]; omega)) only [evB, Sz.cells, Sz.val, Int.cast_ofNat_Int, *]; rfl) ?_
  refine wpH_call0 (mapping25 (s := s) hok) ?_
  rintro v H4 ⟨hx4, rfl⟩
  have g7 := hx4.get g7
  have hx4 := hx4.of_app
  have g0 := (hx4).get g0; have g1 := (hx4).get g1
  have hx4 := hx3.trans hx4
  have hl7 := Heap.get_lt g7
  generalize H3.length = p7 at *
  clear hrow hg
  (try simp only [ctlB])
  refine aw_hv (by simp (disch := first | omega | (simp only [lenB]; omega)) only [evB, Sz.cells, Sz.val, Int.cast_ofNat_Int, *]; rfl) (by simp (disch := first | omega | (simp only [lenB]; omega)) only [evB, Sz.cells, Sz.val, Int.cast_ofNat_Int, *]) (by simp (disch := first | omega | (simp only [lenB]; omega)) only [evB, Sz.cells, Sz.val, Int.cast_ofNat_Int, *]; rfl) ?_
  refine wpH_call0 (order26 hso.dim (by have := hx4.1; omega) hso.ord) ?_
  rintro v H5 ⟨hx5, q, hq, rfl, hgq⟩
  have g0 := (hx5).get g0; have g1 := (hx5).get g1; have g7 := (hx5).get g7
  have hx5 := hx4.trans hx5
  have hql := Heap.get_lt hgq
  have hl5 := Heap.get_lt g7
  have hgl : gf.cells.length ≤ (mapR s * mapC s).toNat ∧ (mapR s * mapC s).toNat ≤ gf.cells.length := by rw [hso.od.len]; omega
  have hmb := map_bd hok
  have hrc0 : 0 ≤ mapR s * mapC s := Int.mul_nonneg (by omega) (by omega)
  have hm := mul_bd (a := s.r) (b := s.c) (A := 200) (B := 200) (by omega) (by omega) (by omega) (by omega) (by omega)
  obtain ⟨W, hW⟩ : ∃ W : Nat, (W : Int) = s.d + s.k := ⟨(s.d + s.k).toNat, by omega⟩
  have hWn : (s.d + s.k).toNat = W := by omega
  have hdpos : 0 < dk.length := by
    have : 0 < s.r * s.c := Int.mul_pos (by omega) (by omega)
    omega
  obtain ⟨bd, od, sp, cap, xs0, ed, gd, hat, hxl⟩ := hd0.els false hdpos
  cases ed
  have gd := hx5.get gd
  have hbl := Heap.get_lt gd
  have hod := hso.od
  rw [hWn] at hod
  (try simp only [ctlB])
  repeat' (first | (refine aw_sets (by simp (disch := first | omega | (simp only [lenB]; omega)) only [evB, Sz.cells, Sz.val, Int.cast_ofNat_Int, *]; rfl) (by simp (disch := first | omega | (simp only [lenB]; omega)) only [evB, Sz.cells, Sz.val, Int.cast_ofNat_Int, *]) (by simp (disch := first | omega | (simp only [lenB]; omega)) only [evB, Sz.cells, Sz.val, Int.cast_ofNat_Int, *]; rfl) ?_; (try simp only [ctlB])) | (refine aw_op rfl (by simp (disch := first | omega | (simp only [lenB]; omega)) only [evB, Sz.cells, Sz.val, Int.cast_ofNat_Int, *]; rfl) (by simp (disch := first | omega | (simp only [lenB]; omega)) only [evB, Sz.cells, Sz.val, Int.cast_ofNat_Int, *]) (by simp (disch := first | omega | (simp only [lenB]; omega)) only [evB, Sz.cells, Sz.val, Int.cast_ofNat_Int, *]; rfl) (by simp (disch := first | omega | (simp only [lenB]; omega)) only [evB, Sz.cells, Sz.val, Int.cast_ofNat_Int, *]; rfl) (by simp (disch := first | omega | (simp only [lenB]; omega)) only [evB, Sz.cells, Sz.val, Int.cast_ofNat_Int, *]; rfl) ?_; (try simp only [ctlB])))
  generalize hM : H5.length = M at *
  refine aw_for (fun i S H' => Ext H H' ∧ M < H'.length ∧ H'.get H.length = some [.int .i64 s.c, .int .i64 s.r, .slice (some ⟨bd, od, sp⟩) dk.length cd] ∧ H'.get (H.length + 1) = some Sz.zero.cells ∧ H'.get p7 = some s.cells ∧ H'.get q = some (intL gf.cells) ∧ H'.get bd = some xs0 ∧ badPat s dk i = false ∧ ∃ xs, H'.get M = some (intL xs) ∧ WB W (seen (exP s gf.cells dk) i) xs ∧ ∃ z0 z2 z4 z5 z6 z10 z11 z12 z13 z14 z15 z16 z17 z18 z19 z20 z24, S = [z0, .pointer (some ⟨H.length, 0, none⟩), z2, .pointer (some ⟨H.length + 1, 0, none⟩), z4, z5, z6, .pointer (some ⟨p7, 0, none⟩), .slice (some ⟨q, 0, none⟩) gf.cells.length gf.cells.length, .slice (some ⟨M, 0, none⟩) W W, z10, z11, z12, z13, z14, z15, z16, z17, z18, z19, z20, .slice (some ⟨bd, od, sp⟩) dk.length cd, .int .i64 (dk.length : Nat), .int .i64 (i : Nat), z24]) dk.length ?_ ?_ ?_ ?_
  · refine ⟨hx5.trans (Ext.app _ _), by simp [hM], by simp (disch := first | omega | (simp only [lenB]; omega)) only [evB, Sz.cells, Sz.val, Int.cast_ofNat_Int, *], by simp (disch := first | omega | (simp only [lenB]; omega)) only [evB, Sz.cells, Sz.val, Int.cast_ofNat_Int, *]; rfl, by simp (disch := first | omega | (simp only [lenB]; omega)) only [evB, Sz.cells, Sz.val, Int.cast_ofNat_Int, *], by simp (disch := first | omega | (simp only [lenB]; omega)) only [evB, Sz.cells, Sz.val, Int.cast_ofNat_Int, *], by simp (disch := first | omega | (simp only [lenB]; omega)) only [evB, Sz.cells, Sz.val, Int.cast_ofNat_Int, *], rfl, List.replicate W 0, by rw [← hM, get_app0], (WB.zero W).congr (fun v _ => rfl), _, _, _, _, _, _, _, _, _, _, _, _, _, _, _, _, _,  rfl⟩
  · rintro i S H' hi ⟨hx, hlM, f0, f1, f7, fq, fd, hbp, xs, fm, hwb, z0, z2, z4, z5, z6, z10, z11, z12, z13, z14, z15, z16, z17, z18, z19, z20, z24,  rfl⟩
    exact ⟨_, by simp (disch := first | omega | (simp only [lenB]; omega)) only [evB, Sz.cells, Sz.val, Int.cast_ofNat_Int, *]; rfl, by simp⟩
  · rintro i S H6 hi ⟨hx6, hlM, f0, f1, f7, fq, fd, hbp, xs, fm, hwb, z0, z2, z4, z5, z6, z10, z11, z12, z13, z14, z15, z16, z17, z18, z19, z20, z24,  rfl⟩
    have hat := hat i hi
    have hiN : (i : Int) < s.r * s.c := by omega
    have hrc := rowcol_bd hok hiN
    have hloc := hso.loc i hiN
    have hinj := fun k v => exP_inj (gf := gf) hsm hso (dk := dk) (i := i) (j := k) (v := v) hiN
    have hsucc := badPat_succ (s := s) (dk := dk) (i := i)
    rw [hbp, Bool.false_or] at hsucc
    have hex := exP.eq_1 s gf.cells dk i
    have hxl2 := hwb.1
    generalize hrow : (i : Int).tdiv s.c = row at *
    generalize hcol : (i : Int).tmod s.c = col at *
    generalize hdi : dk.getD i false = di at *
    have hl6 := hx6.1
    clear g0 g1 g7 hgq gd
    (try simp only [ctlB])
    repeat' (first | (refine aw_sets (by simp (disch := first | omega | (simp only [lenB]; omega)) only [evB, Sz.cells, Sz.val, Int.cast_ofNat_Int, *]; rfl) (by simp (disch := first | omega | (simp only [lenB]; omega)) only [evB, Sz.cells, Sz.val, Int.cast_ofNat_Int, *]) (by simp (disch := first | omega | (simp only [lenB]; omega)) only [evB, Sz.cells, Sz.val, Int.cast_ofNat_Int, *]; rfl) ?_; (try simp only [ctlB])) | (refine aw_op rfl (by simp (disch := first | omega | (simp only [lenB]; omega)) only [evB, Sz.cells, Sz.val, Int.cast_ofNat_Int, *]; rfl) (by simp (disch := first | omega | (simp only [lenB]; omega)) only [evB, Sz.cells, Sz.val, Int.cast_ofNat_Int, *]) (by simp (disch := first | omega | (simp only [lenB]; omega)) only [evB, Sz.cells, Sz.val, Int.cast_ofNat_Int, *]; rfl) (by simp (disch := first | omega | (simp only [lenB]; omega)) only [evB, Sz.cells, Sz.val, Int.cast_ofNat_Int, *]; rfl) (by simp (disch := first | omega | (simp only [lenB]; omega)) only [evB, Sz.cells, Sz.val, Int.cast_ofNat_Int, *]; rfl) ?_; (try simp only [ctlB])))
    refine aw_hv (by simp (disch := first | omega | (simp only [lenB]; omega)) only [evB, Sz.cells, Sz.val, Int.cast_ofNat_Int, *]; rfl) (by simp (disch := first | omega | (simp only [lenB]; omega)) only [evB, Sz.cells, Sz.val, Int.cast_ofNat_Int, *]) (by simp (disch := first | omega | (simp only [lenB]; omega)) only [evB, Sz.cells, Sz.val, Int.cast_ofNat_Int, *]; rfl) ?_
    refine wpH_call0 (locate31 (s := s) (row := row) (col := col) hok (by omega) (by omega) (by omega) (by omega) (by omega)) ?_
    rintro v H7 ⟨hx7, rfl⟩
    have f0 := (hx7).get f0; have f1 := (hx7).get f1; have f7 := (hx7).get f7; have fq := (hx7).get fq; have fd := (hx7).get fd; have fm := (hx7).get fm
    have hlM := Nat.lt_of_lt_of_le hlM hx7.1
    have hx7 := hx6.trans hx7
    have hl7 := hx7.1
    have hfd := Heap.get_lt fd
    clear hat hrow hcol hdi hxl2
    (try simp only [ctlB])
    repeat' (first | (refine aw_sets (by simp (disch := first | omega | (simp only [lenB]; omega)) only [evB, Sz.cells, Sz.val, Int.cast_ofNat_Int, *]; rfl) (by simp (disch := first | omega | (simp only [lenB]; omega)) only [evB, Sz.cells, Sz.val, Int.cast_ofNat_Int, *]) (by simp (disch := first | omega | (simp only [lenB]; omega)) only [evB, Sz.cells, Sz.val, Int.cast_ofNat_Int, *]; rfl) ?_; (try simp only [ctlB])) | (refine aw_op rfl (by simp (disch := first | omega | (simp only [lenB]; omega)) only [evB, Sz.cells, Sz.val, Int.cast_ofNat_Int, *]; rfl) (by simp (disch := first | omega | (simp only [lenB]; omega)) only [evB, Sz.cells, Sz.val, Int.cast_ofNat_Int, *]) (by simp (disch := first | omega | (simp only [lenB]; omega)) only [evB, Sz.cells, Sz.val, Int.cast_ofNat_Int, *]; rfl) (by simp (disch := first | omega | (simp only [lenB]; omega)) only [evB, Sz.cells, Sz.val, Int.cast_ofNat_Int, *]; rfl) (by simp (disch := first | omega | (simp only [lenB]; omega)) only [evB, Sz.cells, Sz.val, Int.cast_ofNat_Int, *]; rfl) ?_; (try simp only [ctlB])))
    refine aw_cond (by simp (disch := first | omega | (simp only [lenB]; omega)) only [evB, Sz.cells, Sz.val, Int.cast_ofNat_Int, *]; rfl) (fun h => ?_) (fun h => ?_)
    · have hB := h
      clear h
      rw [hB, Bool.true_and] at hsucc
      rw [if_pos hB] at hex
      (try simp only [ctlB])
      refine aw_cond (by simp (disch := first | omega | (simp only [lenB]; omega)) only [evB, Sz.cells, Sz.val, Int.cast_ofNat_Int, *]; rfl) (fun h => ?_) (fun h => ?_)
      · have hbad : badPat s dk dk.length = true := badPat_mono (i := i + 1) (by rw [hsucc]; simpa using h) (by omega)
        clear h hsucc
        (try simp only [ctlB])
        repeat' (first | (refine aw_sets (by simp (disch := first | omega | (simp only [lenB]; omega)) only [evB, Sz.cells, Sz.val, Int.cast_ofNat_Int, *]; rfl) (by simp (disch := first | omega | (simp only [lenB]; omega)) only [evB, Sz.cells, Sz.val, Int.cast_ofNat_Int, *]) (by simp (disch := first | omega | (simp only [lenB]; omega)) only [evB, Sz.cells, Sz.val, Int.cast_ofNat_Int, *]; rfl) ?_; (try simp only [ctlB])) | (refine aw_op rfl (by simp (disch := first | omega | (simp only [lenB]; omega)) only [evB, Sz.cells, Sz.val, Int.cast_ofNat_Int, *]; rfl) (by simp (disch := first | omega | (simp only [lenB]; omega)) only [evB, Sz.cells, Sz.val, Int.cast_ofNat_Int, *]) (by simp (disch := first | omega | (simp only [lenB]; omega)) only [evB, Sz.cells, Sz.val, Int.cast_ofNat_Int, *]; rfl) (by simp (disch := first | omega | (simp only [lenB]; omega)) only [evB, Sz.cells, Sz.val, Int.cast_ofNat_Int, *]; rfl) (by simp (disch := first | omega | (simp only [lenB]; omega)) only [evB, Sz.cells, Sz.val, Int.cast_ofNat_Int, *]; rfl) ?_; (try simp only [ctlB])))
        refine body_ret (by simp only [cf22]; simp (disch := first | omega | (simp only [lenB]; omega)) only [evB, Sz.cells, Sz.val, Int.cast_ofNat_Int, *]; rfl) ?_
        exact ⟨(hx7.set (by omega)).trans (Ext.app _ _), .inr (.inr (.inl ⟨hv, s, hf, hbad, rfl⟩))⟩
      · have hgood : badPat s dk (i + 1) = false := by rw [hsucc]; simpa using h
        clear h hsucc
        (try simp only [ctlB])
        repeat' (first | (refine aw_sets (by simp (disch := first | omega | (simp only [lenB]; omega)) only [evB, Sz.cells, Sz.val, Int.cast_ofNat_Int, *]; rfl) (by simp (disch := first | omega | (simp only [lenB]; omega)) only [evB, Sz.cells, Sz.val, Int.cast_ofNat_Int, *]) (by simp (disch := first | omega | (simp only [lenB]; omega)) only [evB, Sz.cells, Sz.val, Int.cast_ofNat_Int, *]; rfl) ?_; (try simp only [ctlB])) | (refine aw_op rfl (by simp (disch := first | omega | (simp only [lenB]; omega)) only [evB, Sz.cells, Sz.val, Int.cast_ofNat_Int, *]; rfl) (by simp (disch := first | omega | (simp only [lenB]; omega)) only [evB, Sz.cells, Sz.val, Int.cast_ofNat_Int, *]) (by simp (disch := first | omega | (simp only [lenB]; omega)) only [evB, Sz.cells, Sz.val, Int.cast_ofNat_Int, *]; rfl) (by simp (disch := first | omega | (simp only [lenB]; omega)) only [evB, Sz.cells, Sz.val, Int.cast_ofNat_Int, *]; rfl) (by simp (disch := first | omega | (simp only [lenB]; omega)) only [evB, Sz.cells, Sz.val, Int.cast_ofNat_Int, *]; rfl) ?_; (try simp only [ctlB])))
        exact ⟨hx7.trans (Ext.app _ _), by simp; omega, by simp (disch := first | omega | (simp only [lenB]; omega)) only [evB, Sz.cells, Sz.val, Int.cast_ofNat_Int, *], by simp (disch := first | omega | (simp only [lenB]; omega)) only [evB, Sz.cells, Sz.val, Int.cast_ofNat_Int, *], by simp (disch := first | omega | (simp only [lenB]; omega)) only [evB, Sz.cells, Sz.val, Int.cast_ofNat_Int, *], by simp (disch := first | omega | (simp only [lenB]; omega)) only [evB, Sz.cells, Sz.val, Int.cast_ofNat_Int, *], by simp (disch := first | omega | (simp only [lenB]; omega)) only [evB, Sz.cells, Sz.val, Int.cast_ofNat_Int, *], hgood, xs, by simp (disch := first | omega | (simp only [lenB]; omega)) only [evB, Sz.cells, Sz.val, Int.cast_ofNat_Int, *], hwb.congr (fun v _ => by rw [seen_succ, hex]; simp), _, _, _, _, _, _, _, _, _, _, _, _, _, _, _, _, _,  by first | rfl | (simp only [Int.natCast_add, Int.natCast_one]; rfl) | simp only [Int.natCast_add, Int.natCast_one]⟩
    have hB := h
    clear h
    have hloc := hloc hB
    rw [hB, Bool.false_and] at hsucc
    have hnb : ¬ locB s row col = true := by rw [hB]; simp
    rw [if_neg hnb] at hex
    have hltI : (locI s row col).toNat < (mapR s * mapC s).toNat := by omega
    have hlt8 := hod.lt (locI s row col).toNat hltI
    have hgd : gf.cells.getD (locI s row col).toNat 0 = gf.cells.getD (locI s row col).toNat (-1) := by
      simp [List.getD_eq_getElem?_getD, List.getElem?_eq_getElem (show (locI s row col).toNat < gf.cells.length by omega)]
    rw [← hgd] at hlt8
    clear hgd hnb
    have hnI : (locI s row col).toNat < gf.cells.length := by omega
    have hlocb := mul_bd (a := mapR s) (b := mapC s) (A := 40000) (B := 40000) (by omega) (by omega) (by omega) (by omega) (by omega)
    (try simp only [ctlB])
    repeat' (first | (refine aw_sets (by simp (disch := first | omega | (simp only [lenB]; omega)) only [evB, Sz.cells, Sz.val, Int.cast_ofNat_Int, *]; rfl) (by simp (disch := first | omega | (simp only [lenB]; omega)) only [evB, Sz.cells, Sz.val, Int.cast_ofNat_Int, *]) (by simp (disch := first | omega | (simp only [lenB]; omega)) only [evB, Sz.cells, Sz.val, Int.cast_ofNat_Int, *]; rfl) ?_; (try simp only [ctlB])) | (refine aw_op rfl (by simp (disch := first | omega | (simp only [lenB]; omega)) only [evB, Sz.cells, Sz.val, Int.cast_ofNat_Int, *]; rfl) (by simp (disch := first | omega | (simp only [lenB]; omega)) only [evB, Sz.cells, Sz.val, Int.cast_ofNat_Int, *]) (by simp (disch := first | omega | (simp only [lenB]; omega)) only [evB, Sz.cells, Sz.val, Int.cast_ofNat_Int, *]; rfl) (by simp (disch := first | omega | (simp only [lenB]; omega)) only [evB, Sz.cells, Sz.val, Int.cast_ofNat_Int, *]; rfl) (by simp (disch := first | omega | (simp only [lenB]; omega)) only [evB, Sz.cells, Sz.val, Int.cast_ofNat_Int, *]; rfl) ?_; (try simp only [ctlB])))
    generalize hn : gf.cells.getD (locI s row col).toNat 0 = n at *
    refine aw_cond (by simp (disch := first | omega | (simp only [lenB]; omega)) only [evB, Sz.cells, Sz.val, Int.cast_ofNat_Int, *]; rfl) (fun h => ?_) (fun h => ?_)
    · have hc : 0 ≤ n ∧ di = true := by simpa using h
      clear h
      rw [if_pos hc] at hex
      obtain ⟨hn0, rfl⟩ := hc
      obtain ⟨m, rfl⟩ := Int.eq_ofNat_of_zero_le hn0
      simp only [Int.toNat_natCast] at hex
      have hm8 : m < 8 * W := by omega
      have hdiv : (m : Int).tdiv 8 = ((m / 8 : Nat) : Int) := by rw [Int.tdiv_eq_ediv_of_nonneg (by omega)]; rfl
      have m8 := tmod_bd (a := (m : Int)) (m := 8) hn0 (by omega)
      have hxl := hwb.1
      have hxl2 : xs.length ≤ W ∧ W ≤ xs.length := by omega
      clear hxl
      obtain ⟨x, hx256, hxat, hxbit⟩ := hwb.at hm8
      have hstep := hwb.step hm8 (y := IntKind.i64.wrap ((BitVec.ofInt IntKind.i64.bits (xs.getD (m / 8) 0) ||| BitVec.ofInt IntKind.i64.bits (IntKind.i64.wrap (1 * 2 ^ (min (7 - (m : Int).tmod 8).toNat IntKind.i64.bits)))).toNat : Int)) (fun x' h1 h2 _ => by rw [h2]; exact or_code h1)
      have hwb2 := hstep.congr (g := seen (exP s gf.cells dk) (i + 1)) (fun v _ => by rw [seen_succ, hex]; congr 1; rw [Bool.eq_iff_iff]; simp [eq_comm])
      generalize hy : IntKind.i64.wrap ((BitVec.ofInt IntKind.i64.bits (xs.getD (m / 8) 0) ||| BitVec.ofInt IntKind.i64.bits (IntKind.i64.wrap (1 * 2 ^ (min (7 - (m : Int).tmod 8).toNat IntKind.i64.bits)))).toNat : Int) = y at *
      clear hxat hex hinj
      (try simp only [ctlB])
      repeat' (first | (refine aw_sets (by simp (disch := first | omega | (simp only [lenB]; omega)) only [evB, Sz.cells, Sz.val, Int.cast_ofNat_Int, *]; rfl) (by simp (disch := first | omega | (simp only [lenB]; omega)) only [evB, Sz.cells, Sz.val, Int.cast_ofNat_Int, *]) (by simp (disch := first | omega | (simp only [lenB]; omega)) only [evB, Sz.cells, Sz.val, Int.cast_ofNat_Int, *]; rfl) ?_; (try simp only [ctlB])) | (refine aw_op rfl (by simp (disch := first | omega | (simp only [lenB]; omega)) only [evB, Sz.cells, Sz.val, Int.cast_ofNat_Int, *]; rfl) (by simp (disch := first | omega | (simp only [lenB]; omega)) only [evB, Sz.cells, Sz.val, Int.cast_ofNat_Int, *]) (by simp (disch := first | omega | (simp only [lenB]; omega)) only [evB, Sz.cells, Sz.val, Int.cast_ofNat_Int, *]; rfl) (by simp (disch := first | omega | (simp only [lenB]; omega)) only [evB, Sz.cells, Sz.val, Int.cast_ofNat_Int, *]; rfl) (by simp (disch := first | omega | (simp only [lenB]; omega)) only [evB, Sz.cells, Sz.val, Int.cast_ofNat_Int, *]; rfl) ?_; (try simp only [ctlB])))
      exact ⟨(hx7.set (by omega)).trans (Ext.app _ _), by simp; omega, by simp (disch := first | omega | (simp only [lenB]; omega)) only [evB, Sz.cells, Sz.val, Int.cast_ofNat_Int, *], by simp (disch := first | omega | (simp only [lenB]; omega)) only [evB, Sz.cells, Sz.val, Int.cast_ofNat_Int, *], by simp (disch := first | omega | (simp only [lenB]; omega)) only [evB, Sz.cells, Sz.val, Int.cast_ofNat_Int, *], by simp (disch := first | omega | (simp only [lenB]; omega)) only [evB, Sz.cells, Sz.val, Int.cast_ofNat_Int, *], by simp (disch := first | omega | (simp only [lenB]; omega)) only [evB, Sz.cells, Sz.val, Int.cast_ofNat_Int, *], hsucc, xs.set (m / 8) y, by simp (disch := first | omega | (simp only [lenB]; omega)) only [evB, Sz.cells, Sz.val, Int.cast_ofNat_Int, *], hwb2, _, _, _, _, _, _, _, _, _, _, _, _, _, _, _, _, _,  by first | rfl | (simp only [Int.natCast_add, Int.natCast_one]; rfl) | simp only [Int.natCast_add, Int.natCast_one]⟩
    · have hc : ¬ (0 ≤ n ∧ di = true) := by simpa using h
      clear h
      rw [if_neg hc] at hex
      (try simp only [ctlB])
      repeat' (first | (refine aw_sets (by simp (disch := first | omega | (simp only [lenB]; omega)) only [evB, Sz.cells, Sz.val, Int.cast_ofNat_Int, *]; rfl) (by simp (disch := first | omega | (simp only [lenB]; omega)) only [evB, Sz.cells, Sz.val, Int.cast_ofNat_Int, *]) (by simp (disch := first | omega | (simp only [lenB]; omega)) only [evB, Sz.cells, Sz.val, Int.cast_ofNat_Int, *]; rfl) ?_; (try simp only [ctlB])) | (refine aw_op rfl (by simp (disch := first | omega | (simp only [lenB]; omega)) only [evB, Sz.cells, Sz.val, Int.cast_ofNat_Int, *]; rfl) (by simp (disch := first | omega | (simp only [lenB]; omega)) only [evB, Sz.cells, Sz.val, Int.cast_ofNat_Int, *]) (by simp (disch := first | omega | (simp only [lenB]; omega)) only [evB, Sz.cells, Sz.val, Int.cast_ofNat_Int, *]; rfl) (by simp (disch := first | omega | (simp only [lenB]; omega)) only [evB, Sz.cells, Sz.val, Int.cast_ofNat_Int, *]; rfl) (by simp (disch := first | omega | (simp only [lenB]; omega)) only [evB, Sz.cells, Sz.val, Int.cast_ofNat_Int, *]; rfl) ?_; (try simp only [ctlB])))
      exact ⟨hx7.trans (Ext.app _ _), by simp; omega, by simp (disch := first | omega | (simp only [lenB]; omega)) only [evB, Sz.cells, Sz.val, Int.cast_ofNat_Int, *], by simp (disch := first | omega | (simp only [lenB]; omega)) only [evB, Sz.cells, Sz.val, Int.cast_ofNat_Int, *], by simp (disch := first | omega | (simp only [lenB]; omega)) only [evB, Sz.cells, Sz.val, Int.cast_ofNat_Int, *], by simp (disch := first | omega | (simp only [lenB]; omega)) only [evB, Sz.cells, Sz.val, Int.cast_ofNat_Int, *], by simp (disch := first | omega | (simp only [lenB]; omega)) only [evB, Sz.cells, Sz.val, Int.cast_ofNat_Int, *], hsucc, xs, by simp (disch := first | omega | (simp only [lenB]; omega)) only [evB, Sz.cells, Sz.val, Int.cast_ofNat_Int, *], hwb.congr (fun v _ => by rw [seen_succ, hex]; simp), _, _, _, _, _, _, _, _, _, _, _, _, _, _, _, _, _,  by first | rfl | (simp only [Int.natCast_add, Int.natCast_one]; rfl) | simp only [Int.natCast_add, Int.natCast_one]⟩
  · rintro S H6 ⟨hx6, hlM, f0, f1, f7, fq, fd, hbp, xs, fm, hwb, z0, z2, z4, z5, z6, z10, z11, z12, z13, z14, z15, z16, z17, z18, z19, z20, z24,  rfl⟩
    have hxl := hwb.1
    have hl6 := hx6.1
    (try simp only [ctlB])
    repeat' (first | (refine aw_sets (by simp (disch := first | omega | (simp only [lenB]; omega)) only [evB, Sz.cells, Sz.val, Int.cast_ofNat_Int, *]; rfl) (by simp (disch := first | omega | (simp only [lenB]; omega)) only [evB, Sz.cells, Sz.val, Int.cast_ofNat_Int, *]) (by simp (disch := first | omega | (simp only [lenB]; omega)) only [evB, Sz.cells, Sz.val, Int.cast_ofNat_Int, *]; rfl) ?_; (try simp only [ctlB])) | (refine aw_op rfl (by simp (disch := first | omega | (simp only [lenB]; omega)) only [evB, Sz.cells, Sz.val, Int.cast_ofNat_Int, *]; rfl) (by simp (disch := first | omega | (simp only [lenB]; omega)) only [evB, Sz.cells, Sz.val, Int.cast_ofNat_Int, *]) (by simp (disch := first | omega | (simp only [lenB]; omega)) only [evB, Sz.cells, Sz.val, Int.cast_ofNat_Int, *]; rfl) (by simp (disch := first | omega | (simp only [lenB]; omega)) only [evB, Sz.cells, Sz.val, Int.cast_ofNat_Int, *]; rfl) (by simp (disch := first | omega | (simp only [lenB]; omega)) only [evB, Sz.cells, Sz.val, Int.cast_ofNat_Int, *]; rfl) ?_; (try simp only [ctlB])))
    refine body_ret (by simp only [cf22]; simp (disch := first | omega | (simp only [lenB]; omega)) only [evB, Sz.cells, Sz.val, Int.cast_ofNat_Int, *]; rfl) ?_
    refine ⟨hx6.set (by omega), .inr (.inr (.inr ⟨hv, s, gf, _, xs, hf, hso, hbp, by rw [hWn]; exact hwb, rfl, ?_⟩))⟩
    rw [← hxl]
    exact .inr ⟨M, none, _, xs, rfl, by rw [get_set_ne (by omega)]; exact fm, fun _ _ => rfl, Nat.le_refl _⟩
end Go.Proofs.Ytobfjbominbkmaa
