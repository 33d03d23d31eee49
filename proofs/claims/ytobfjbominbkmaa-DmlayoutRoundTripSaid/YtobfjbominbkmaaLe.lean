/-
  DmlayoutPlaces returns true for all codewords and all sizes: Place agrees with the reference. No conditions.
-/
import Derived.Test.YtobfjbominbkmaaWn
import Derived.Test.YtobfjbominbkmaaLz
namespace Go.Proofs.Ytobfjbominbkmaa
open Go.Abs
set_option linter.unusedSimpArgs false
set_option linter.unusedVariables false
theorem law5 (v : Value) (ws : List Int) (s : Sz) (H : Heap) (hw : SlI H v ws) (hw' : Words H v ws) (hl : ws.length ≤ 9223372036854775807) : Ev cp H.length 5 [v, s.val] H (fun v _ => v = .bool true) := by
  refine st5 ?_; unfold bd5; (try simp only [ctlB])
  repeat' (first | (refine aw_sets (by simp (disch := first | omega | (simp only [lenB]; omega)) only [evB, Sz.cells, Sz.val, *]; rfl) (by simp (disch := first | omega | (simp only [lenB]; omega)) only [evB, Sz.cells, Sz.val, *]) (by simp (disch := first | omega | (simp only [lenB]; omega)) only [evB, Sz.cells, Sz.val, *]; rfl) ?_; (try simp only [ctlB])) | (refine aw_op rfl (by simp (disch := first | omega | (simp only [lenB]; omega)) only [evB, Sz.cells, Sz.val, *]; rfl) (by simp (disch := first | omega | (simp only [lenB]; omega)) only [evB, Sz.cells, Sz.val, *]) (by simp (disch := first | omega | (simp only [lenB]; omega)) only [evB, Sz.cells, Sz.val, *]; rfl) (by simp (disch := first | omega | (simp only [lenB]; omega)) only [evB, Sz.cells, Sz.val, *]; rfl) (by simp (disch := first | omega | (simp only [lenB]; omega)) only [evB, Sz.cells, Sz.val, *]; rfl) ?_; (try simp only [ctlB])))
  refine aw_hv (by simp (disch := first | omega | (simp only [lenB]; omega)) only [evB, Sz.cells, Sz.val, *]; rfl) (by simp (disch := first | omega | (simp only [lenB]; omega)) only [evB, Sz.cells, Sz.val, *]) (by simp (disch := first | omega | (simp only [lenB]; omega)) only [evB, Sz.cells, Sz.val, *]; rfl) ?_
  refine wpH_call0 (place18 (s := s) (ws := ws) (by simp) (hw'.mono (Ext.app _ _)) (fun h => so_all s h)) ?_
  rintro v1 H1 ⟨hx1, hc1⟩
  have g0 : H1.get H.length = some _ := hx1.get (by simp (disch := first | omega | (simp only [lenB]; omega)) only [evB, Sz.cells, Sz.val, *]; rfl)
  have hx1 := hx1.of_app
  have hl1 := Heap.get_lt g0
  have key : ∃ (w y : Int) (vd : Value) (dk : List Bool) (e : Int), v1 = .tuple #[.agg #[.int .i64 w, .int .i64 y, vd], .int .i64 e] ∧ SlB H1 vd dk ∧ dk.length ≤ 100000 ∧
      (∀ (H2 : Heap) (v2 : Value), (((¬ s ∈ szs ∧ v2 = .tuple #[.agg #[.int .i64 0, .int .i64 0, .slice none 0 0], .int .i64 14]) ∨
       (s ∈ szs ∧ (ws.length : Int) ≠ s.d + s.k ∧ v2 = .tuple #[.agg #[.int .i64 0, .int .i64 0, .slice none 0 0], .int .i64 7]) ∨
       (s ∈ szs ∧ (ws.length : Int) = s.d + s.k ∧ badWord ws = true ∧ v2 = .tuple #[.agg #[.int .i64 0, .int .i64 0, .slice none 0 0], .int .i64 3]) ∨
       (s ∈ szs ∧ (ws.length : Int) = s.d + s.k ∧ badWord ws = false ∧ ∃ gf vd, SizeOrd s gf ∧ v2 = .tuple #[.agg #[.int .i64 s.c, .int .i64 s.r, vd], .int .i64 0] ∧ SlB H2 vd (modBits s gf.cells ws (s.r * s.c).toNat)))) → ∃ vd2, v2 = .tuple #[.agg #[.int .i64 w, .int .i64 y, vd2], .int .i64 e] ∧ SlB H2 vd2 dk) := by
    rcases hc1 with ⟨h1, rfl⟩ | ⟨h1, h2, rfl⟩ | ⟨h1, h2, h3, rfl⟩ | ⟨h1, h2, h3, gf, q, hso, hq, rfl, hgq⟩
    · refine ⟨_, _, _, [], _, rfl, .inl ⟨rfl, rfl⟩, by simp, fun H2 v2 h => ?_⟩
      rcases h with ⟨k1, rfl⟩ | ⟨k1, _⟩ | ⟨k1, _⟩ | ⟨k1, _⟩
      · exact ⟨_, rfl, .inl ⟨rfl, rfl⟩⟩
      all_goals exact absurd k1 h1
    · refine ⟨_, _, _, [], _, rfl, .inl ⟨rfl, rfl⟩, by simp, fun H2 v2 h => ?_⟩
      rcases h with ⟨k1, _⟩ | ⟨k1, k2, rfl⟩ | ⟨k1, k2, _⟩ | ⟨k1, k2, _⟩
      · exact absurd h1 k1
      · exact ⟨_, rfl, .inl ⟨rfl, rfl⟩⟩
      all_goals exact absurd k2 h2
    · refine ⟨_, _, _, [], _, rfl, .inl ⟨rfl, rfl⟩, by simp, fun H2 v2 h => ?_⟩
      rcases h with ⟨k1, _⟩ | ⟨k1, k2, _⟩ | ⟨k1, k2, k3, rfl⟩ | ⟨k1, k2, k3, _⟩
      · exact absurd h1 k1
      · exact absurd h2 k2
      · exact ⟨_, rfl, .inl ⟨rfl, rfl⟩⟩
      · rw [h3] at k3; cases k3
    · have hok := szs_ok s h1
      obtain ⟨r0, r1, c0, c1, _⟩ := hok
      have hm := mul_bd (a := s.r) (b := s.c) (A := 200) (B := 200) (by omega) (by omega) (by omega) (by omega) (by omega)
      have hml : (modBits s gf.cells ws (s.r * s.c).toNat).length = (s.r * s.c).toNat := modBits_len
      refine ⟨_, _, _, modBits s gf.cells ws (s.r * s.c).toNat, _, rfl, ?_, by omega, fun H2 v2 h => ?_⟩
      · have := Sl.whole (enc := Value.bool) (sp := none) (cap := (s.r * s.c).toNat) hgq
        rwa [hml] at this
      · rcases h with ⟨k1, _⟩ | ⟨k1, k2, _⟩ | ⟨k1, k2, k3, _⟩ | ⟨k1, k2, k3, gf2, vd, hso2, rfl, hs⟩
        · exact absurd h1 k1
        · exact absurd h2 k2
        · rw [h3] at k3; cases k3
        · have e := hso.ord
          rw [hso2.ord] at e
          cases e
          exact ⟨_, rfl, hs⟩
  obtain ⟨w, y, vd, dk, e, rfl, hsd, hdl, hk⟩ := key
  obtain ⟨ad, cd, rfl⟩ := hsd.len
  clear hc1
  (try simp only [ctlB])
  repeat' (first | (refine aw_sets (by simp (disch := first | omega | (simp only [lenB]; omega)) only [evB, Sz.cells, Sz.val, *]; rfl) (by simp (disch := first | omega | (simp only [lenB]; omega)) only [evB, Sz.cells, Sz.val, *]) (by simp (disch := first | omega | (simp only [lenB]; omega)) only [evB, Sz.cells, Sz.val, *]; rfl) ?_; (try simp only [ctlB])) | (refine aw_op rfl (by simp (disch := first | omega | (simp only [lenB]; omega)) only [evB, Sz.cells, Sz.val, *]; rfl) (by simp (disch := first | omega | (simp only [lenB]; omega)) only [evB, Sz.cells, Sz.val, *]) (by simp (disch := first | omega | (simp only [lenB]; omega)) only [evB, Sz.cells, Sz.val, *]; rfl) (by simp (disch := first | omega | (simp only [lenB]; omega)) only [evB, Sz.cells, Sz.val, *]; rfl) (by simp (disch := first | omega | (simp only [lenB]; omega)) only [evB, Sz.cells, Sz.val, *]; rfl) ?_; (try simp only [ctlB])))
  have f4 : Heap.get (H1 ++ [some [Value.int .i64 w, Value.int .i64 y, Value.slice ad dk.length cd]]) H1.length = some [Value.int .i64 w, Value.int .i64 y, Value.slice ad dk.length cd] := get_app0
  refine aw_hv (by simp (disch := first | omega | (simp only [lenB]; omega)) only [evB, Sz.cells, Sz.val, *]; rfl) (by simp (disch := first | omega | (simp only [lenB]; omega)) only [evB, Sz.cells, Sz.val, *]) (by simp (disch := first | omega | (simp only [lenB]; omega)) only [evB, Sz.cells, Sz.val, *]; rfl) ?_
  refine wpH_call0 (place19 (s := s) (ws := ws) (by simp; omega) (hw.mono (hx1.trans (Ext.app _ _)))) ?_
  rintro v2 H2 ⟨hx2, hc2⟩
  obtain ⟨vd2, rfl, hsd2⟩ := hk H2 v2 hc2
  obtain ⟨ad2, cd2, rfl⟩ := hsd2.len
  have f4 := hx2.get f4
  have hl4 := Heap.get_lt f4
  have hsd := hsd.mono hx2.of_app
  have hx2 := hx1.trans hx2.of_app
  generalize H1.length = p4 at *
  clear hc2 hk
  (try simp only [ctlB])
  repeat' (first | (refine aw_sets (by simp (disch := first | omega | (simp only [lenB]; omega)) only [evB, Sz.cells, Sz.val, *]; rfl) (by simp (disch := first | omega | (simp only [lenB]; omega)) only [evB, Sz.cells, Sz.val, *]) (by simp (disch := first | omega | (simp only [lenB]; omega)) only [evB, Sz.cells, Sz.val, *]; rfl) ?_; (try simp only [ctlB])) | (refine aw_op rfl (by simp (disch := first | omega | (simp only [lenB]; omega)) only [evB, Sz.cells, Sz.val, *]; rfl) (by simp (disch := first | omega | (simp only [lenB]; omega)) only [evB, Sz.cells, Sz.val, *]) (by simp (disch := first | omega | (simp only [lenB]; omega)) only [evB, Sz.cells, Sz.val, *]; rfl) (by simp (disch := first | omega | (simp only [lenB]; omega)) only [evB, Sz.cells, Sz.val, *]; rfl) (by simp (disch := first | omega | (simp only [lenB]; omega)) only [evB, Sz.cells, Sz.val, *]; rfl) ?_; (try simp only [ctlB])))
  refine aw_hv (by simp (disch := first | omega | (simp only [lenB]; omega)) only [evB, Sz.cells, Sz.val, *]; rfl) (by simp (disch := first | omega | (simp only [lenB]; omega)) only [evB, Sz.cells, Sz.val, *]) (by simp (disch := first | omega | (simp only [lenB]; omega)) only [evB, Sz.cells, Sz.val, *]; rfl) ?_
  refine wpH_call0 (same20 (by omega) (by omega) (hsd.mono (Ext.app _ _)) (hsd2.mono (Ext.app _ _))) ?_
  rintro v3 H3 ⟨hx3, rfl⟩
  rw [show (decide (w = w) && decide (y = y) && decide (dk = dk)) = true by simp]
  have hl3 := hx3.1
  simp only [List.length_append, List.length_cons, List.length_nil] at hl3
  have hl2 := hx2.1
  (try simp only [ctlB])
  refine aw_hv_if (t := true) (by simp (disch := first | omega | (simp only [lenB]; omega)) only [evB, Sz.cells, Sz.val, *]; rfl) (by simp (disch := first | omega | (simp only [lenB]; omega)) only [evB, Sz.cells, Sz.val, *]) (by simp (disch := first | omega | (simp only [lenB]; omega)) only [evB, Sz.cells, Sz.val, *]) (fun _ => ⟨_, by simp (disch := first | omega | (simp only [lenB]; omega)) only [evB, Sz.cells, Sz.val, *]; rfl, ?_⟩) (fun h => by cases h)
  refine wpH_call0 (examples14 (by omega)) ?_
  rintro v H5 ⟨hx5, rfl⟩
  (try simp only [ctlB])
  repeat' (first | (refine aw_sets (by simp (disch := first | omega | (simp only [lenB]; omega)) only [evB, Sz.cells, Sz.val, *]; rfl) (by simp (disch := first | omega | (simp only [lenB]; omega)) only [evB, Sz.cells, Sz.val, *]) (by simp (disch := first | omega | (simp only [lenB]; omega)) only [evB, Sz.cells, Sz.val, *]; rfl) ?_; (try simp only [ctlB])) | (refine aw_op rfl (by simp (disch := first | omega | (simp only [lenB]; omega)) only [evB, Sz.cells, Sz.val, *]; rfl) (by simp (disch := first | omega | (simp only [lenB]; omega)) only [evB, Sz.cells, Sz.val, *]) (by simp (disch := first | omega | (simp only [lenB]; omega)) only [evB, Sz.cells, Sz.val, *]; rfl) (by simp (disch := first | omega | (simp only [lenB]; omega)) only [evB, Sz.cells, Sz.val, *]; rfl) (by simp (disch := first | omega | (simp only [lenB]; omega)) only [evB, Sz.cells, Sz.val, *]; rfl) ?_; (try simp only [ctlB])))
  refine body_ret (by simp only [cf5]; simp (disch := first | omega | (simp only [lenB]; omega)) only [evB, Sz.cells, Sz.val, *]; rfl) ?_
  rfl
theorem words_of {H : Heap} {v : Value} {l : List Int} (h : (v = .slice none 0 0 ∧ l = []) ∨ ∃ (b cap : Nat) (xs : List Int), v = .slice (some ⟨b, 0, none⟩) l.length cap ∧ H.get b = some (xs.map (Value.int .i64)) ∧ l = xs.take l.length ∧ l.length ≤ xs.length) : Words H v l := by
  rcases h with h | ⟨b, cap, xs, h1, h2, h3, h4⟩
  · exact .inl h
  · refine .inr ⟨b, cap, xs, h1, h2, fun i hi => ?_, h4⟩
    rw [h3]
    simp [List.getD_eq_getElem?_getD, List.getElem?_take, hi]
theorem size_of {B : Nat} {H : Heap} {v : Value} (h : HasArg B H (.rcd [.int .i64, .int .i64, .int .i64, .int .i64, .int .i64, .int .i64, .int .i64]) v) : ∃ s : Sz, v = s.val := by
  simp only [HasArg, HasAll, Has] at h
  obtain ⟨cs, rfl, _, _, h1, ⟨a, rfl, _⟩, _, _, rfl, ⟨b, rfl, _⟩, _, _, rfl, ⟨c, rfl, _⟩, _, _, rfl, ⟨d, rfl, _⟩, _, _, rfl, ⟨e, rfl, _⟩, _, _, rfl, ⟨f, rfl, _⟩, _, _, rfl, ⟨g, rfl, _⟩, rfl⟩ := h
  refine ⟨⟨a, b, c, d, e, f, g⟩, ?_⟩
  have : cs = #[.int .i64 a, .int .i64 b, .int .i64 c, .int .i64 d, .int .i64 e, .int .i64 f, .int .i64 g] := by
    apply Array.toList_inj.1
    rw [h1]; rfl
  rw [this]; rfl
namespace dmlayoutPlaces
open Go.ChangeShapes Go.WideShapes Go.ChangeAt Go.RowKit
theorem fnE (X : Type) (ds : List (DataW X)) (h : ds.length = 2) : Rows.dmlayoutPlacesSpec.fn X ds = ⟨[.lit (.bool true)], ds, []⟩ := by
  match ds, h with
  | [d1, d2], _ => rfl
theorem lawAll (H : Heap) (vs : List Value) (h : HasArgs maxLen H [.sl (.int .i64), .rcd [.int .i64, .int .i64, .int .i64, .int .i64, .int .i64, .int .i64, .int .i64]] vs) : Ev cp H.length 5 vs H (fun v _ => v = .bool true) := by
  simp only [HasArgs] at h
  obtain ⟨a, r, rfl, h1, b, r2, rfl, h2, rfl⟩ := h
  obtain ⟨l, h3, h4, _, h5⟩ := has_slI h1
  obtain ⟨s, rfl⟩ := size_of h2
  exact law5 a l s H h3 (words_of h5) (Nat.le_trans h4 (by decide))
set_option maxRecDepth 100000 in
theorem lifted (os : Os) (started : os.Started) (H : Type) (enc : TypeId × Value → H) :
    ReturnsInHanded {} Try.checked os 5 .any (Rows.dmlayoutPlacesSpec.pre6 enc Try.prog Try.f5 Rows.dmlayoutPlacesRow.domain false) (Rows.dmlayoutPlacesSpec.post enc Try.prog Try.f5 false true false false) := by
  refine returnsInHanded_of_change (C := Try.checked) own started (by kernel_rfl) Try.func5
    (ChangeSpec.witness6 (enc := enc) (C := Try.checked) false ⟨#[], #[.slice none 0 0, .agg #[.int .i64 0, .int .i64 0, .int .i64 0, .int .i64 0, .int .i64 0, .int .i64 0, .int .i64 0]], []⟩ 8 (by kernel_rfl) (by kernel_rfl) (by kernel_rfl) (by kernel_rfl)) ?_
  intro W base args ds gs before hval hW _ _
  exact law_contract (P := Try.prog) (fn := Try.f5) (s := Rows.dmlayoutPlacesSpec) okAll (d := 8) (tys := [.sl (.int .i64), .rcd [.int .i64, .int .i64, .int .i64, .int .i64, .int .i64, .int .i64, .int .i64]]) (by kernel_rfl) (by kernel_rfl) (by kernel_rfl) Try.underlying4 laidOut (by kernel_rfl) rfl fnE lawAll W (by rw [noGlobals]; omega) base args ds gs before hval hW (fun x _ => .inl (Nat.le_refl _))
theorem over : Rows.dmlayoutPlacesRow.holds Try.pinned (OpenSpec.ofChange Rows.dmlayoutPlacesSpec) :=
  OpenClaim.holds_of_wide 5 Try.f5 rfl rfl rfl rfl rfl rfl rfl ⟨rfl, rfl, rfl, rfl, rfl⟩ rfl rfl rfl rfl rfl (by kernel_rfl) Try.func5 (by kernel_rfl)
    (of_decide_eq_true (by kernel_rfl)) (by unfold Func.isWrapper; first | (rw [if_pos (by decide +kernel)]; kernel_rfl) | (rw [if_neg (by decide +kernel)]; exact ⟨rfl, rfl⟩))
    (fun os started H enc _ => lifted os started H enc)
theorem proved : Rows.DmlayoutPlacesSaid := over
#print axioms proved
end dmlayoutPlaces
end Go.Proofs.Ytobfjbominbkmaa
