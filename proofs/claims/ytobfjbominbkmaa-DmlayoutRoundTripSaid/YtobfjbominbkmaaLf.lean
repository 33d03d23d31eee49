/-
  DmlayoutExtracts returns true for every matrix: Extract agrees with the reference. No conditions.
-/
import Derived.Test.YtobfjbominbkmaaWq
import Derived.Test.YtobfjbominbkmaaLe
namespace Go.Proofs.Ytobfjbominbkmaa
open Go.Abs
set_option linter.unusedSimpArgs false
set_option linter.unusedVariables false
theorem WordsX.mono {H H' : Heap} {v : Value} {ws : List Int} (h : WordsX H v ws) (e : Ext H H') : WordsX H' v ws := by
  rcases h with h | ⟨b, sp, cap, xs, h1, h2, h3⟩
  · exact .inl h
  · exact .inr ⟨b, sp, cap, xs, h1, e.get h2, h3⟩
theorem extOut_key {w u : Int} {dk : List Bool} {H1 : Heap} {r1 : Value} (h : ExtOut w u dk H1 r1) : ∃ (va : Value) (xa : List Int) (s : Sz) (e : Int), r1 = .tuple #[va, s.val, .int .i64 e] ∧ WordsX H1 va xa ∧ xa.length ≤ 10000 ∧
    ∀ (H2 : Heap) (r2 : Value), ExtOut w u dk H2 r2 → ∃ vb, r2 = .tuple #[vb, s.val, .int .i64 e] ∧ WordsX H2 vb xa := by
  rcases h with ⟨h1, rfl⟩ | ⟨h1, h2, rfl⟩ | ⟨h1, s, h2, h3, rfl⟩ | ⟨h1, s, gf, v, xs, h2, h3, h4, h5, rfl, h6⟩
  · refine ⟨_, [], _, _, rfl, .inl ⟨rfl, rfl⟩, by simp, fun H2 r2 k => ?_⟩
    rcases k with ⟨k1, rfl⟩ | ⟨k1, _⟩ | ⟨k1, _⟩ | ⟨k1, _⟩
    · exact ⟨_, rfl, .inl ⟨rfl, rfl⟩⟩
    all_goals (rw [h1] at k1; cases k1)
  · refine ⟨_, [], _, _, rfl, .inl ⟨rfl, rfl⟩, by simp, fun H2 r2 k => ?_⟩
    rcases k with ⟨k1, _⟩ | ⟨k1, k2, rfl⟩ | ⟨k1, t, k2, _⟩ | ⟨k1, t, gf, v, xs, k2, _⟩
    · rw [h1] at k1; cases k1
    · exact ⟨_, rfl, .inl ⟨rfl, rfl⟩⟩
    all_goals (rw [h2] at k2; cases k2)
  · refine ⟨_, [], _, _, rfl, .inl ⟨rfl, rfl⟩, by simp, fun H2 r2 k => ?_⟩
    rcases k with ⟨k1, _⟩ | ⟨k1, k2, _⟩ | ⟨k1, t, k2, k3, rfl⟩ | ⟨k1, t, gf, v, xs, k2, k3, k4, _⟩
    · rw [h1] at k1; cases k1
    · rw [h2] at k2; cases k2
    · exact ⟨_, rfl, .inl ⟨rfl, rfl⟩⟩
    · rw [h2] at k2; cases k2; rw [h3] at k4; cases k4
  · have hok := szs_ok s (find_some h2).1
    refine ⟨_, xs, _, _, rfl, h6, ?_, fun H2 r2 k => ?_⟩
    · rw [h5.1]; obtain ⟨_, _, _, _, _, _, _, _, d0, d1, k0, k1⟩ := hok; omega
    rcases k with ⟨k1, _⟩ | ⟨k1, k2, _⟩ | ⟨k1, t, k2, k3, _⟩ | ⟨k1, t, gf', v', xs', k2, k3, k4, k5, rfl, k6⟩
    · rw [h1] at k1; cases k1
    · rw [h2] at k2; cases k2
    · rw [h2] at k2; cases k2; rw [h4] at k3; cases k3
    · rw [h2] at k2
      cases k2
      have e := h3.ord
      rw [k3.ord] at e
      cases e
      have := k5.uniq h5
      subst this
      exact ⟨_, rfl, k6⟩
theorem law8 (vd : Value) (dk : List Bool) (w u : Int) (H : Heap) (hd : SlB H vd dk) : Ev cp H.length 8 [.agg #[.int .i64 w, .int .i64 u, vd]] H (fun v _ => v = .bool true) := by
  have hd0 := hd
  obtain ⟨ad, cd, rfl⟩ := hd.len
  refine st8 ?_; unfold bd8; (try simp only [ctlB])
  repeat' (first | (refine aw_sets (by simp (disch := first | omega | (simp only [lenB]; omega)) only [evB, Sz.cells, Sz.val, Int.cast_ofNat_Int, *]; rfl) (by simp (disch := first | omega | (simp only [lenB]; omega)) only [evB, Sz.cells, Sz.val, Int.cast_ofNat_Int, *]) (by simp (disch := first | omega | (simp only [lenB]; omega)) only [evB, Sz.cells, Sz.val, Int.cast_ofNat_Int, *]; rfl) ?_; (try simp only [ctlB])) | (refine aw_op rfl (by simp (disch := first | omega | (simp only [lenB]; omega)) only [evB, Sz.cells, Sz.val, Int.cast_ofNat_Int, *]; rfl) (by simp (disch := first | omega | (simp only [lenB]; omega)) only [evB, Sz.cells, Sz.val, Int.cast_ofNat_Int, *]) (by simp (disch := first | omega | (simp only [lenB]; omega)) only [evB, Sz.cells, Sz.val, Int.cast_ofNat_Int, *]; rfl) (by simp (disch := first | omega | (simp only [lenB]; omega)) only [evB, Sz.cells, Sz.val, Int.cast_ofNat_Int, *]; rfl) (by simp (disch := first | omega | (simp only [lenB]; omega)) only [evB, Sz.cells, Sz.val, Int.cast_ofNat_Int, *]; rfl) ?_; (try simp only [ctlB])))
  refine aw_cond (by simp (disch := first | omega | (simp only [lenB]; omega)) only [evB, Sz.cells, Sz.val, Int.cast_ofNat_Int, *]; rfl) (fun h => ?_) (fun h => ?_)
  · clear h
    (try simp only [ctlB])
    refine aw_hv (by simp (disch := first | omega | (simp only [lenB]; omega)) only [evB, Sz.cells, Sz.val, Int.cast_ofNat_Int, *]; rfl) (by simp (disch := first | omega | (simp only [lenB]; omega)) only [evB, Sz.cells, Sz.val, Int.cast_ofNat_Int, *]) (by simp (disch := first | omega | (simp only [lenB]; omega)) only [evB, Sz.cells, Sz.val, Int.cast_ofNat_Int, *]; rfl) ?_
    refine wpH_call0 (examples14 (by simp)) ?_
    rintro v H5 ⟨hx5, rfl⟩
    (try simp only [ctlB])
    repeat' (first | (refine aw_sets (by simp (disch := first | omega | (simp only [lenB]; omega)) only [evB, Sz.cells, Sz.val, Int.cast_ofNat_Int, *]; rfl) (by simp (disch := first | omega | (simp only [lenB]; omega)) only [evB, Sz.cells, Sz.val, Int.cast_ofNat_Int, *]) (by simp (disch := first | omega | (simp only [lenB]; omega)) only [evB, Sz.cells, Sz.val, Int.cast_ofNat_Int, *]; rfl) ?_; (try simp only [ctlB])) | (refine aw_op rfl (by simp (disch := first | omega | (simp only [lenB]; omega)) only [evB, Sz.cells, Sz.val, Int.cast_ofNat_Int, *]; rfl) (by simp (disch := first | omega | (simp only [lenB]; omega)) only [evB, Sz.cells, Sz.val, Int.cast_ofNat_Int, *]) (by simp (disch := first | omega | (simp only [lenB]; omega)) only [evB, Sz.cells, Sz.val, Int.cast_ofNat_Int, *]; rfl) (by simp (disch := first | omega | (simp only [lenB]; omega)) only [evB, Sz.cells, Sz.val, Int.cast_ofNat_Int, *]; rfl) (by simp (disch := first | omega | (simp only [lenB]; omega)) only [evB, Sz.cells, Sz.val, Int.cast_ofNat_Int, *]; rfl) ?_; (try simp only [ctlB])))
    refine body_ret (by simp only [cf8]; simp (disch := first | omega | (simp only [lenB]; omega)) only [evB, Sz.cells, Sz.val, Int.cast_ofNat_Int, *]; rfl) ?_
    rfl
  clear h
  (try simp only [ctlB])
  refine aw_hv (by simp (disch := first | omega | (simp only [lenB]; omega)) only [evB, Sz.cells, Sz.val, Int.cast_ofNat_Int, *]; rfl) (by simp (disch := first | omega | (simp only [lenB]; omega)) only [evB, Sz.cells, Sz.val, Int.cast_ofNat_Int, *]) (by simp (disch := first | omega | (simp only [lenB]; omega)) only [evB, Sz.cells, Sz.val, Int.cast_ofNat_Int, *]; rfl) ?_
  refine wpH_call0 (extract22 (by simp) (hd0.mono (Ext.app _ _))) ?_
  rintro r1 H1 ⟨hx1, ho1⟩
  have g0 : H1.get H.length = some _ := hx1.get (by simp (disch := first | omega | (simp only [lenB]; omega)) only [evB, Sz.cells, Sz.val, Int.cast_ofNat_Int, *]; rfl)
  have hx1 := hx1.of_app
  have hl1 := Heap.get_lt g0
  obtain ⟨va, xa, s, e, rfl, hwa, hxl, hk⟩ := extOut_key ho1
  clear ho1
  (try simp only [ctlB])
  repeat' (first | (refine aw_sets (by simp (disch := first | omega | (simp only [lenB]; omega)) only [evB, Sz.cells, Sz.val, Int.cast_ofNat_Int, *]; rfl) (by simp (disch := first | omega | (simp only [lenB]; omega)) only [evB, Sz.cells, Sz.val, Int.cast_ofNat_Int, *]) (by simp (disch := first | omega | (simp only [lenB]; omega)) only [evB, Sz.cells, Sz.val, Int.cast_ofNat_Int, *]; rfl) ?_; (try simp only [ctlB])) | (refine aw_op rfl (by simp (disch := first | omega | (simp only [lenB]; omega)) only [evB, Sz.cells, Sz.val, Int.cast_ofNat_Int, *]; rfl) (by simp (disch := first | omega | (simp only [lenB]; omega)) only [evB, Sz.cells, Sz.val, Int.cast_ofNat_Int, *]) (by simp (disch := first | omega | (simp only [lenB]; omega)) only [evB, Sz.cells, Sz.val, Int.cast_ofNat_Int, *]; rfl) (by simp (disch := first | omega | (simp only [lenB]; omega)) only [evB, Sz.cells, Sz.val, Int.cast_ofNat_Int, *]; rfl) (by simp (disch := first | omega | (simp only [lenB]; omega)) only [evB, Sz.cells, Sz.val, Int.cast_ofNat_Int, *]; rfl) ?_; (try simp only [ctlB])))
  have g4 : Heap.get (H1 ++ [some s.cells]) H1.length = some s.cells := get_app0
  refine aw_hv (by simp (disch := first | omega | (simp only [lenB]; omega)) only [evB, Sz.cells, Sz.val, Int.cast_ofNat_Int, *]; rfl) (by simp (disch := first | omega | (simp only [lenB]; omega)) only [evB, Sz.cells, Sz.val, Int.cast_ofNat_Int, *]) (by simp (disch := first | omega | (simp only [lenB]; omega)) only [evB, Sz.cells, Sz.val, Int.cast_ofNat_Int, *]; rfl) ?_
  refine wpH_call0 (extract23 (by simp; omega) (hd0.mono (hx1.trans (Ext.app _ _)))) ?_
  rintro r2 H2 ⟨hx2, ho2⟩
  obtain ⟨vb, rfl, hwb⟩ := hk H2 r2 ho2
  have g4 := hx2.get g4
  have hwa := hwa.mono hx2.of_app
  have hx2 := hx1.trans hx2.of_app
  have hl2 := hx2.1
  have hl4 := Heap.get_lt g4
  generalize H1.length = p4 at *
  clear hk ho2
  (try simp only [ctlB])
  repeat' (first | (refine aw_sets (by simp (disch := first | omega | (simp only [lenB]; omega)) only [evB, Sz.cells, Sz.val, Int.cast_ofNat_Int, *]; rfl) (by simp (disch := first | omega | (simp only [lenB]; omega)) only [evB, Sz.cells, Sz.val, Int.cast_ofNat_Int, *]) (by simp (disch := first | omega | (simp only [lenB]; omega)) only [evB, Sz.cells, Sz.val, Int.cast_ofNat_Int, *]; rfl) ?_; (try simp only [ctlB])) | (refine aw_op rfl (by simp (disch := first | omega | (simp only [lenB]; omega)) only [evB, Sz.cells, Sz.val, Int.cast_ofNat_Int, *]; rfl) (by simp (disch := first | omega | (simp only [lenB]; omega)) only [evB, Sz.cells, Sz.val, Int.cast_ofNat_Int, *]) (by simp (disch := first | omega | (simp only [lenB]; omega)) only [evB, Sz.cells, Sz.val, Int.cast_ofNat_Int, *]; rfl) (by simp (disch := first | omega | (simp only [lenB]; omega)) only [evB, Sz.cells, Sz.val, Int.cast_ofNat_Int, *]; rfl) (by simp (disch := first | omega | (simp only [lenB]; omega)) only [evB, Sz.cells, Sz.val, Int.cast_ofNat_Int, *]; rfl) ?_; (try simp only [ctlB])))
  refine aw_hv (by simp (disch := first | omega | (simp only [lenB]; omega)) only [evB, Sz.cells, Sz.val, Int.cast_ofNat_Int, *]; rfl) (by simp (disch := first | omega | (simp only [lenB]; omega)) only [evB, Sz.cells, Sz.val, Int.cast_ofNat_Int, *]) (by simp (disch := first | omega | (simp only [lenB]; omega)) only [evB, Sz.cells, Sz.val, Int.cast_ofNat_Int, *]; rfl) ?_
  refine wpH_call0 (same17 (a := xa) (b := xa) (by omega) (by omega) (hwa.mono (Ext.app _ _)) (hwb.mono (Ext.app _ _))) ?_
  rintro v3 H3 ⟨rfl, rfl⟩
  rw [show decide (xa = xa) = true by simp]
  have hse := sz_eq (a := s) (b := s)
  simp only [Sz.cells, decide_true] at hse
  (try simp only [ctlB])
  refine aw_hv_if (t := true) (by simp (disch := first | omega | (simp only [lenB]; omega)) only [evB, Sz.cells, Sz.val, Int.cast_ofNat_Int, *]; rfl) (by simp (disch := first | omega | (simp only [lenB]; omega)) only [evB, Sz.cells, Sz.val, Int.cast_ofNat_Int, *]) (by simp (disch := first | omega | (simp only [lenB]; omega)) only [evB, Sz.cells, Sz.val, Int.cast_ofNat_Int, *]; try rfl) (fun _ => ⟨_, by simp (disch := first | omega | (simp only [lenB]; omega)) only [evB, Sz.cells, Sz.val, Int.cast_ofNat_Int, *]; rfl, ?_⟩) (fun h => by cases h)
  refine wpH_call0 (examples14 (by simp; omega)) ?_
  rintro v H5 ⟨hx5, rfl⟩
  (try simp only [ctlB])
  repeat' (first | (refine aw_sets (by simp (disch := first | omega | (simp only [lenB]; omega)) only [evB, Sz.cells, Sz.val, Int.cast_ofNat_Int, *]; rfl) (by simp (disch := first | omega | (simp only [lenB]; omega)) only [evB, Sz.cells, Sz.val, Int.cast_ofNat_Int, *]) (by simp (disch := first | omega | (simp only [lenB]; omega)) only [evB, Sz.cells, Sz.val, Int.cast_ofNat_Int, *]; rfl) ?_; (try simp only [ctlB])) | (refine aw_op rfl (by simp (disch := first | omega | (simp only [lenB]; omega)) only [evB, Sz.cells, Sz.val, Int.cast_ofNat_Int, *]; rfl) (by simp (disch := first | omega | (simp only [lenB]; omega)) only [evB, Sz.cells, Sz.val, Int.cast_ofNat_Int, *]) (by simp (disch := first | omega | (simp only [lenB]; omega)) only [evB, Sz.cells, Sz.val, Int.cast_ofNat_Int, *]; rfl) (by simp (disch := first | omega | (simp only [lenB]; omega)) only [evB, Sz.cells, Sz.val, Int.cast_ofNat_Int, *]; rfl) (by simp (disch := first | omega | (simp only [lenB]; omega)) only [evB, Sz.cells, Sz.val, Int.cast_ofNat_Int, *]; rfl) ?_; (try simp only [ctlB])))
  refine body_ret (by simp only [cf8]; simp (disch := first | omega | (simp only [lenB]; omega)) only [evB, Sz.cells, Sz.val, Int.cast_ofNat_Int, *]; rfl) ?_
  rfl
theorem matrix_of {B : Nat} {H : Heap} {v : Value} (h : HasArg B H (.rcd [.int .i64, .int .i64, .sl .bool]) v) : ∃ w u vd dk, v = .agg #[.int .i64 w, .int .i64 u, vd] ∧ SlB H vd dk := by
  simp only [HasArg, HasAll] at h
  obtain ⟨cs, rfl, a1, _, h1, ha, a2, _, rfl, hb, a3, _, rfl, hc, rfl⟩ := h
  simp only [Has] at ha hb
  obtain ⟨w, rfl, _⟩ := ha
  obtain ⟨u, rfl, _⟩ := hb
  obtain ⟨vd, rfl, hc⟩ := has_one hc (by intro l e; cases e) (by intro n l e; cases e)
  obtain ⟨dk, h2, _⟩ := has_slB hc
  refine ⟨w, u, vd, dk, ?_, h2⟩
  have : cs = #[.int .i64 w, .int .i64 u, vd] := by
    apply Array.toList_inj.1
    rw [h1]; rfl
  rw [this]
namespace dmlayoutExtracts
open Go.ChangeShapes Go.WideShapes Go.ChangeAt Go.RowKit
theorem fnE (X : Type) (ds : List (DataW X)) (h : ds.length = 1) : Rows.dmlayoutExtractsSpec.fn X ds = ⟨[.lit (.bool true)], ds, []⟩ := by
  match ds, h with
  | [d1], _ => rfl
theorem lawAll (H : Heap) (vs : List Value) (h : HasArgs maxLen H [.rcd [.int .i64, .int .i64, .sl .bool]] vs) : Ev cp H.length 8 vs H (fun v _ => v = .bool true) := by
  simp only [HasArgs] at h
  obtain ⟨a, r, rfl, h1, rfl⟩ := h
  obtain ⟨w, u, vd, dk, rfl, h2⟩ := matrix_of h1
  exact law8 vd dk w u H h2
set_option maxRecDepth 100000 in
theorem lifted (os : Os) (started : os.Started) (H : Type) (enc : TypeId × Value → H) :
    ReturnsInHanded {} Try.checked os 8 .any (Rows.dmlayoutExtractsSpec.pre6 enc Try.prog Try.f8 Rows.dmlayoutExtractsRow.domain false) (Rows.dmlayoutExtractsSpec.post enc Try.prog Try.f8 false true false false) := by
  refine returnsInHanded_of_change (C := Try.checked) own started (by kernel_rfl) Try.func8
    (ChangeSpec.witness6 (enc := enc) (C := Try.checked) false ⟨#[], #[.agg #[.int .i64 0, .int .i64 0, .slice none 0 0]], []⟩ 8 (by kernel_rfl) (by kernel_rfl) (by kernel_rfl) (by kernel_rfl)) ?_
  intro W base args ds gs before hval hW _ _
  exact law_contract (P := Try.prog) (fn := Try.f8) (s := Rows.dmlayoutExtractsSpec) okAll (d := 8) (tys := [.rcd [.int .i64, .int .i64, .sl .bool]]) (by kernel_rfl) (by kernel_rfl) (by kernel_rfl) Try.underlying4 laidOut (by kernel_rfl) rfl fnE lawAll W (by rw [noGlobals]; omega) base args ds gs before hval hW (fun x _ => .inl (Nat.le_refl _))
theorem over : Rows.dmlayoutExtractsRow.holds Try.pinned (OpenSpec.ofChange Rows.dmlayoutExtractsSpec) :=
  OpenClaim.holds_of_wide 8 Try.f8 rfl rfl rfl rfl rfl rfl rfl ⟨rfl, rfl, rfl, rfl, rfl⟩ rfl rfl rfl rfl rfl (by kernel_rfl) Try.func8 (by kernel_rfl)
    (of_decide_eq_true (by kernel_rfl)) (by unfold Func.isWrapper; first | (rw [if_pos (by decide +kernel)]; kernel_rfl) | (rw [if_neg (by decide +kernel)]; exact ⟨rfl, rfl⟩))
    (fun os started H enc _ => lifted os started H enc)
theorem proved : Rows.DmlayoutExtractsSaid := over
#print axioms proved
end dmlayoutExtracts
end Go.Proofs.Ytobfjbominbkmaa
