/-
  The order that the reference makes, whole.
-/
import Derived.Test.YtobfjbominbkmaaWf
import Derived.Test.YtobfjbominbkmaaWg
namespace Go.Proofs.Ytobfjbominbkmaa
open Go.Abs
set_option linter.unusedSimpArgs false
/-- the reference's slice while it grows -/
def growV (q : Nat) (i : Nat) : Value := if i = 0 then .slice none 0 0 else .slice (some ⟨q, 0, some 1⟩) i i
theorem up_succ {σ : Type} (O : Ops σ) (C : Int) (k : Nat) (s : σ) (r c : Int) : upG O C (k + 1) s r c = (if inB r c = true then match pifG O s r c with
    | none => none
    | some s => if 0 ≤ r - 2 ∧ c + 2 < C then upG O C k s (r - 2) (c + 2) else some (s, r - 2, c + 2)
    else none) := by simp only [upG, fI_eq]; rfl
theorem down_succ {σ : Type} (O : Ops σ) (R : Int) (k : Nat) (s : σ) (r c : Int) : downG O R (k + 1) s r c = (if inB r c = true then match pifG O s r c with
    | none => none
    | some s => if r + 2 < R ∧ 0 ≤ c - 2 then downG O R k s (r + 2) (c - 2) else some (s, r + 2, c - 2)
    else none) := by simp only [downG, fI_eq]; rfl
set_option maxHeartbeats 4000000 in
theorem order28 {lo : Nat} {H : Heap} {R C : Int} {gf : G} (hd : Dim R C) (hlo : lo ≤ H.length) (h : ordP R C = some gf) :
    Ev cp lo 28 [.int .i64 R, .int .i64 C] H (fun v H' => Ext H H' ∧ ∃ q, H.length ≤ q ∧ v = .slice (some ⟨q, 0, some 1⟩) gf.cells.length gf.cells.length ∧ H'.get q = some (intL gf.cells)) := by
  have hd' := hd
  obtain ⟨r0, r1, c0, c1⟩ := hd'
  have hm := mul_bd (a := R) (b := C) (A := 200) (B := 200) (by omega) (by omega) (by omega) c1 (by omega)
  have hm1 : 6 * C ≤ R * C := Int.mul_le_mul_of_nonneg_right r0 (by omega)
  refine st28 ?_; unfold bd28; (try simp only [ctlB])
  repeat' (first | (refine aw_sets (by simp (disch := first | omega | (simp only [lenB]; omega)) only [evB, Sz.cells, Sz.val, *]; rfl) (by simp (disch := first | omega | (simp only [lenB]; omega)) only [evB, Sz.cells, Sz.val, *]) (by simp (disch := first | omega | (simp only [lenB]; omega)) only [evB, Sz.cells, Sz.val, *]; rfl) ?_; (try simp only [ctlB])) | (refine aw_op rfl (by simp (disch := first | omega | (simp only [lenB]; omega)) only [evB, Sz.cells, Sz.val, *]; rfl) (by simp (disch := first | omega | (simp only [lenB]; omega)) only [evB, Sz.cells, Sz.val, *]) (by simp (disch := first | omega | (simp only [lenB]; omega)) only [evB, Sz.cells, Sz.val, *]; rfl) (by simp (disch := first | omega | (simp only [lenB]; omega)) only [evB, Sz.cells, Sz.val, *]; rfl) (by simp (disch := first | omega | (simp only [lenB]; omega)) only [evB, Sz.cells, Sz.val, *]; rfl) ?_; (try simp only [ctlB])))
  refine aw_midXB (fun S H' => ∃ (q : Nat) (x4 x8 x9 x10 x11 : Value), S = [.int .i64 R, .int .i64 C, .slice none 0 0, .pointer (some ⟨H.length, 0, none⟩), x4, undef, undef, .pointer (some ⟨H.length, 0, none⟩), x8, x9, x10, x11] ∧ Ext H H' ∧ H.length < q ∧ H'.get H.length = some [.int .i64 R, .int .i64 C, .int .i64 0, .slice (some ⟨q, 0, some 1⟩) (R * C).toNat (R * C).toNat] ∧ H'.get q = some (intL (List.replicate (R * C).toNat (-1)))) ?_ ?_
  · refine aw_loop' (fun m S H' => ∃ (i q : Nat) (x8 x9 x10 x11 : Value), (i : Int) ≤ R * C ∧ m = (R * C).toNat - i ∧ S = [.int .i64 R, .int .i64 C, .slice none 0 0, .pointer (some ⟨H.length, 0, none⟩), .int .i64 i, undef, undef, .pointer (some ⟨H.length, 0, none⟩), x8, x9, x10, x11] ∧ Ext H H' ∧ H.length < H'.length ∧ H'.get H.length = some [.int .i64 R, .int .i64 C, .int .i64 0, growV q i] ∧ (i ≠ 0 → H.length < q ∧ H'.get q = some (intL (List.replicate i (-1))))) (R * C).toNat ?_ ?_
    · exact ⟨0, 0, _, _, _, _, by omega, by omega, rfl, Ext.app _ _, by simp, by rw [get_app0]; rfl, fun h => absurd rfl h⟩
    rintro m S H' ⟨i, q, x8, x9, x10, x11, hi, rfl, rfl, hx, hl, g0, gq⟩
    (try simp only [ctlB])
    refine aw_cond (by simp (disch := first | omega | (simp only [lenB]; omega)) only [evB, Sz.cells, Sz.val, *]; rfl) (fun h => ?_) (fun h => ?_)
    · have hi2 : (i : Int) < R * C := by simpa using h
      clear h
      by_cases hi0 : i = 0
      · subst hi0
        simp only [growV, if_true] at g0
        clear gq
        (try simp only [ctlB])
        repeat' (first | (refine aw_sets (by simp (disch := first | omega | (simp only [lenB]; omega)) only [evB, Sz.cells, Sz.val, *]; rfl) (by simp (disch := first | omega | (simp only [lenB]; omega)) only [evB, Sz.cells, Sz.val, *]) (by simp (disch := first | omega | (simp only [lenB]; omega)) only [evB, Sz.cells, Sz.val, *]; rfl) ?_; (try simp only [ctlB])) | (refine aw_op rfl (by simp (disch := first | omega | (simp only [lenB]; omega)) only [evB, Sz.cells, Sz.val, *]; rfl) (by simp (disch := first | omega | (simp only [lenB]; omega)) only [evB, Sz.cells, Sz.val, *]) (by simp (disch := first | omega | (simp only [lenB]; omega)) only [evB, Sz.cells, Sz.val, *]; rfl) (by simp (disch := first | omega | (simp only [lenB]; omega)) only [evB, Sz.cells, Sz.val, *]; rfl) (by simp (disch := first | omega | (simp only [lenB]; omega)) only [evB, Sz.cells, Sz.val, *]; rfl) ?_; (try simp only [ctlB])))
        simp only [loopQ_n]
        refine ⟨(R * C).toNat - 1, by omega, 1, H'.length + 1, _, _, _, _, by omega, rfl, rfl, (hx.set (Nat.le_refl _)).trans (Ext.app _ _), by simp; omega, ?_, fun _ => ⟨by omega, ?_⟩⟩
        · rw [get_app_lt (by simp; omega), get_set_self hl]; rfl
        · have e : ∀ X : Heap, X.length = H'.length → ∀ a b : List Value, Heap.get (X ++ [some a, some b]) (H'.length + 1) = some b := fun X hX a b => by rw [← hX, get_appS]; rfl
          rw [e _ (by simp)]; rfl
      · obtain ⟨hq, gq⟩ := gq hi0
        simp only [growV, if_neg hi0] at g0
        have hql := Heap.get_lt gq
        (try simp only [ctlB])
        repeat' (first | (refine aw_sets (by simp (disch := first | omega | (simp only [lenB]; omega)) only [evB, Sz.cells, Sz.val, *]; rfl) (by simp (disch := first | omega | (simp only [lenB]; omega)) only [evB, Sz.cells, Sz.val, *]) (by simp (disch := first | omega | (simp only [lenB]; omega)) only [evB, Sz.cells, Sz.val, *]; rfl) ?_; (try simp only [ctlB])) | (refine aw_op rfl (by simp (disch := first | omega | (simp only [lenB]; omega)) only [evB, Sz.cells, Sz.val, *]; rfl) (by simp (disch := first | omega | (simp only [lenB]; omega)) only [evB, Sz.cells, Sz.val, *]) (by simp (disch := first | omega | (simp only [lenB]; omega)) only [evB, Sz.cells, Sz.val, *]; rfl) (by simp (disch := first | omega | (simp only [lenB]; omega)) only [evB, Sz.cells, Sz.val, *]; rfl) (by simp (disch := first | omega | (simp only [lenB]; omega)) only [evB, Sz.cells, Sz.val, *]; rfl) ?_; (try simp only [ctlB])))
        simp only [loopQ_n]
        refine ⟨(R * C).toNat - (i + 1), by omega, i + 1, H'.length + 1, _, _, _, _, by omega, rfl, by simp only [Int.natCast_add, Int.natCast_one]; rfl, ?_, by simp; omega, ?_, fun _ => ⟨by omega, ?_⟩⟩
        · exact ((hx.set (by omega)).set (by omega)).trans (Ext.app _ _)
        · rw [get_app_lt (by simp; omega), get_set_self (by simp; omega)]; simp [growV]
        · have e : ∀ X : Heap, X.length = H'.length → ∀ a b : List Value, Heap.get (X ++ [some a, some b]) (H'.length + 1) = some b := fun X hX a b => by rw [← hX, get_appS]; rfl
          rw [e _ (by simp), List.take_of_length_le (by simp), List.replicate_succ', intL_app]; rfl
    · have hi2 : (i : Int) = R * C := by simp at h; omega
      clear h
      have hi3 : i = (R * C).toNat := by omega
      obtain ⟨hq, gq⟩ := gq (by omega)
      simp only [growV, if_neg (show ¬ i = 0 by omega)] at g0
      rw [hi3] at g0 gq
      (try simp only [ctlB])
      exact ⟨q, _, _, _, _, _, rfl, hx, hq, g0, gq⟩
  rintro S H1 ⟨q, x4, x8, x9, x10, x11, rfl, hx1, hq, g0, gq⟩
  have hf : Grd H1 H.length q R C ⟨0, List.replicate (R * C).toNat (-1)⟩ := ⟨by rw [g0]; simp, gq, by omega⟩
  clear g0 gq
  unfold ordP at h
  generalize hg0 : (⟨0, List.replicate (R * C).toNat (-1)⟩ : G) = gi at *
  have hlen0 : (gi.cells.length : Int) = R * C := by rw [← hg0]; simp; omega
  clear hg0
  have hHp : H.length ≤ H.length := Nat.le_refl _
  generalize hx7 : Value.pointer (some ⟨H.length, 0, none⟩) = x7'
  generalize hp : H.length = p at hf hlo hq hx7 hHp ⊢
  subst hx7
  have hlp : lo ≤ p := hlo
  have hlq : lo ≤ q := by omega
  have hch1 : ∀ i, i < p → H1.get i = H.get i := fun i hi => hx1.2 i (by omega)
  have hl1 : p ≤ H1.length := by have := hx1.1; omega
  (try simp only [ctlB])
  repeat' (first | (refine aw_sets (by simp (disch := first | omega | (simp only [lenB]; omega)) only [evB, Sz.cells, Sz.val, *]; rfl) (by simp (disch := first | omega | (simp only [lenB]; omega)) only [evB, Sz.cells, Sz.val, *]) (by simp (disch := first | omega | (simp only [lenB]; omega)) only [evB, Sz.cells, Sz.val, *]; rfl) ?_; (try simp only [ctlB])) | (refine aw_op rfl (by simp (disch := first | omega | (simp only [lenB]; omega)) only [evB, Sz.cells, Sz.val, *]; rfl) (by simp (disch := first | omega | (simp only [lenB]; omega)) only [evB, Sz.cells, Sz.val, *]) (by simp (disch := first | omega | (simp only [lenB]; omega)) only [evB, Sz.cells, Sz.val, *]; rfl) (by simp (disch := first | omega | (simp only [lenB]; omega)) only [evB, Sz.cells, Sz.val, *]; rfl) (by simp (disch := first | omega | (simp only [lenB]; omega)) only [evB, Sz.cells, Sz.val, *]; rfl) ?_; (try simp only [ctlB])))
  refine aw_loop' (fun m S H' => ∃ (r c : Int) (g : G) (x4 x7 x8 x9 x10 x11 : Value), S = [.int .i64 R, .int .i64 C, .slice none 0 0, .pointer (some ⟨p, 0, none⟩), x4, .int .i64 r, .int .i64 c, x7, x8, x9, x10, x11] ∧ Grd H' p q R C g ∧ (g.cells.length : Int) = R * C ∧ (∀ i, i < p → H'.get i = H.get i) ∧ p ≤ H'.length ∧
    (((r < R ∨ c < C) ∧ ∃ k, m = k + 1 ∧ outG (listOps R C) R C k g r c = some gf) ∨ (¬ (r < R ∨ c < C) ∧ m = 0 ∧ g = gf))) 201 ?_ ?_
  · exact ⟨4, 0, gi, _, _, _, _, _, _, rfl, hf, hlen0, hch1, hl1, .inl ⟨.inl (by omega), 200, rfl, h⟩⟩
  rintro m S H3 ⟨r, c, g, x4, x7, x8, x9, x10, x11, rfl, hf3, hlen3, hch3, hl3, hcase⟩
  (try simp only [ctlB])
  refine aw_cond (by simp (disch := first | omega | (simp only [lenB]; omega)) only [evB, Sz.cells, Sz.val, *]; rfl) (fun h => ?_) (fun h => ?_)
  · have hcond : r < R ∨ c < C := by simpa using h
    clear h
    rcases hcase with ⟨_, k, rfl, hout⟩ | ⟨e, _⟩
    rotate_left
    · exact absurd hcond e
    cases k with
    | zero => simp [outG] at hout
    | succ k =>
    simp only [outG, fI_eq] at hout
    split at hout
    rotate_left
    · simp at hout
    rename_i hinB
    have hb := inB_some hinB
    split at hout
    · simp at hout
    rename_i g4 hg4
    split at hout
    · simp at hout
    rename_i g5 ra ca hg5
    split at hout
    · simp at hout
    rename_i g6 rb cb hg6
    have bl5 := up_len hg5
    have bl6 := down_len hg6
    have bl4 := corners_len hg4
    (try simp only [ctlB])
    refine aw_hv (by simp (disch := first | omega | (simp only [lenB]; omega)) only [evB, Sz.cells, Sz.val, *]; rfl) (by simp (disch := first | omega | (simp only [lenB]; omega)) only [evB, Sz.cells, Sz.val, *]) (by simp (disch := first | omega | (simp only [lenB]; omega)) only [evB, Sz.cells, Sz.val, *]; rfl) ?_
    refine wpH_call0 (corners44 hd hf3 hlp hlq hg4) ?_
    rintro v H4 ⟨hf4, hc4⟩
    have hlen4 : (g4.cells.length : Int) = R * C := by rw [bl4]; exact hlen3
    have hch4 : ∀ i, i < p → H4.get i = H.get i := fun i hi => by rw [hc4.get i (by omega) (by omega) (by omega)]; exact hch3 i hi
    have hl4 : p ≤ H4.length := Nat.le_trans hl3 hc4.len
    rw [up_succ _ _ 199, if_pos hinB] at hg5
    split at hg5
    · simp at hg5
    rename_i g7 hg7
    have bl7 := pif_len hg7
    (try simp only [ctlB])
    refine aw_hv (by simp (disch := first | omega | (simp only [lenB]; omega)) only [evB, Sz.cells, Sz.val, *]; rfl) (by simp (disch := first | omega | (simp only [lenB]; omega)) only [evB, Sz.cells, Sz.val, *]) (by simp (disch := first | omega | (simp only [lenB]; omega)) only [evB, Sz.cells, Sz.val, *]; rfl) ?_
    refine wpH_call0 (place45 hinB hd hf4 hlen4 hlp hlq hg7) ?_
    rintro v H5 ⟨hf5, hc5⟩
    have hlen5 : (g7.cells.length : Int) = R * C := by rw [bl7]; exact hlen4
    have hch5 : ∀ i, i < p → H5.get i = H.get i := fun i hi => by rw [hc5.get i (by omega) (by omega) (by omega)]; exact hch4 i hi
    have hl5 : p ≤ H5.length := Nat.le_trans hl4 hc5.len
    (try simp only [ctlB])
    repeat' (first | (refine aw_sets (by simp (disch := first | omega | (simp only [lenB]; omega)) only [evB, Sz.cells, Sz.val, *]; rfl) (by simp (disch := first | omega | (simp only [lenB]; omega)) only [evB, Sz.cells, Sz.val, *]) (by simp (disch := first | omega | (simp only [lenB]; omega)) only [evB, Sz.cells, Sz.val, *]; rfl) ?_; (try simp only [ctlB])) | (refine aw_op rfl (by simp (disch := first | omega | (simp only [lenB]; omega)) only [evB, Sz.cells, Sz.val, *]; rfl) (by simp (disch := first | omega | (simp only [lenB]; omega)) only [evB, Sz.cells, Sz.val, *]) (by simp (disch := first | omega | (simp only [lenB]; omega)) only [evB, Sz.cells, Sz.val, *]; rfl) (by simp (disch := first | omega | (simp only [lenB]; omega)) only [evB, Sz.cells, Sz.val, *]; rfl) (by simp (disch := first | omega | (simp only [lenB]; omega)) only [evB, Sz.cells, Sz.val, *]; rfl) ?_; (try simp only [ctlB])))
    refine aw_midXB (fun S H' => ∃ x4 x7 x8 x9 x10 x11 : Value, S = [.int .i64 R, .int .i64 C, .slice none 0 0, .pointer (some ⟨p, 0, none⟩), x4, .int .i64 ra, .int .i64 ca, x7, x8, x9, x10, x11] ∧ Grd H' p q R C g5 ∧ (∀ i, i < p → H'.get i = H.get i) ∧ p ≤ H'.length) ?_ ?_
    · refine aw_loop' (fun m S H' => ∃ (r c : Int) (g : G) (x4 x7 x8 x9 x10 x11 : Value), S = [.int .i64 R, .int .i64 C, .slice none 0 0, .pointer (some ⟨p, 0, none⟩), x4, .int .i64 r, .int .i64 c, x7, x8, x9, x10, x11] ∧ -4002 ≤ r ∧ r ≤ 4002 ∧ -4002 ≤ c ∧ c ≤ 4002 ∧ Grd H' p q R C g ∧ (g.cells.length : Int) = R * C ∧ (∀ i, i < p → H'.get i = H.get i) ∧ p ≤ H'.length ∧
        (((0 ≤ r ∧ c < C) ∧ ∃ k, k < m ∧ upG (listOps R C) C k g r c = some (g5, ra, ca)) ∨ (¬ (0 ≤ r ∧ c < C) ∧ g = g5 ∧ r = ra ∧ c = ca))) 201 ?_ ?_
      · refine ⟨r - 2, c + 2, g7, _, _, _, _, _, _, rfl, by omega, by omega, by omega, by omega, hf5, hlen5, hch5, hl5, ?_⟩
        split at hg5
        · rename_i hc2; exact .inl ⟨hc2, 199, by omega, hg5⟩
        · rename_i hc2
          simp only [Option.some.injEq, Prod.mk.injEq] at hg5
          exact .inr ⟨hc2, hg5.1, hg5.2.1, hg5.2.2⟩
      rintro m S H6 ⟨r, c, g, x4, x7, x8, x9, x10, x11, rfl, br1, br2, bc1, bc2, hf6, hlen6, hch6, hl6, hcase⟩
      (try simp only [ctlB])
      refine aw_cond (by simp (disch := first | omega | (simp only [lenB]; omega)) only [evB, Sz.cells, Sz.val, *]; rfl) (fun h => ?_) (fun h => ?_)
      · have hcond : 0 ≤ r ∧ c < C := by simpa using h
        clear h
        rcases hcase with ⟨_, k, hkm, hup⟩ | ⟨e, _⟩
        rotate_left
        · exact absurd hcond e
        cases k with
        | zero => simp [upG] at hup
        | succ k =>
        rw [up_succ] at hup
        split at hup
        rotate_left
        · simp at hup
        rename_i hinB
        have hb := inB_some hinB
        split at hup
        · simp at hup
        rename_i g7 hg7
        have hlen7 : (g7.cells.length : Int) = R * C := by rw [pif_len hg7]; exact hlen6
        (try simp only [ctlB])
        refine aw_hv (by simp (disch := first | omega | (simp only [lenB]; omega)) only [evB, Sz.cells, Sz.val, *]; rfl) (by simp (disch := first | omega | (simp only [lenB]; omega)) only [evB, Sz.cells, Sz.val, *]) (by simp (disch := first | omega | (simp only [lenB]; omega)) only [evB, Sz.cells, Sz.val, *]; rfl) ?_
        refine wpH_call0 (place45 hinB hd hf6 hlen6 hlp hlq hg7) ?_
        rintro v H7 ⟨hf7, hc7⟩
        have hch7 : ∀ i, i < p → H7.get i = H.get i := fun i hi => by rw [hc7.get i (by omega) (by omega) (by omega)]; exact hch6 i hi
        have hl7 : p ≤ H7.length := Nat.le_trans hl6 hc7.len
        (try simp only [ctlB])
        repeat' (first | (refine aw_sets (by simp (disch := first | omega | (simp only [lenB]; omega)) only [evB, Sz.cells, Sz.val, *]; rfl) (by simp (disch := first | omega | (simp only [lenB]; omega)) only [evB, Sz.cells, Sz.val, *]) (by simp (disch := first | omega | (simp only [lenB]; omega)) only [evB, Sz.cells, Sz.val, *]; rfl) ?_; (try simp only [ctlB])) | (refine aw_op rfl (by simp (disch := first | omega | (simp only [lenB]; omega)) only [evB, Sz.cells, Sz.val, *]; rfl) (by simp (disch := first | omega | (simp only [lenB]; omega)) only [evB, Sz.cells, Sz.val, *]) (by simp (disch := first | omega | (simp only [lenB]; omega)) only [evB, Sz.cells, Sz.val, *]; rfl) (by simp (disch := first | omega | (simp only [lenB]; omega)) only [evB, Sz.cells, Sz.val, *]; rfl) (by simp (disch := first | omega | (simp only [lenB]; omega)) only [evB, Sz.cells, Sz.val, *]; rfl) ?_; (try simp only [ctlB])))
        simp only [loopQ_n]
        split at hup
        · rename_i hc2
          exact ⟨m - 1, by omega, r - 2, c + 2, g7, _, _, _, _, _, _, rfl, by omega, by omega, by omega, by omega, hf7, hlen7, hch7, hl7, .inl ⟨hc2, k, by omega, hup⟩⟩
        · rename_i hc2
          simp only [Option.some.injEq, Prod.mk.injEq] at hup
          exact ⟨m - 1, by omega, r - 2, c + 2, g7, _, _, _, _, _, _, rfl, by omega, by omega, by omega, by omega, hf7, hlen7, hch7, hl7, .inr ⟨hc2, hup.1, hup.2.1, hup.2.2⟩⟩
      · have hcond : ¬ (0 ≤ r ∧ c < C) := by simpa using h
        clear h
        rcases hcase with ⟨e, _⟩ | ⟨_, rfl, rfl, rfl⟩
        · exact absurd e hcond
        (try simp only [ctlB])
        exact ⟨_, _, _, _, _, _, rfl, hf6, hch6, hl6⟩
    rintro S H6 ⟨y4, y7, y8, y9, y10, y11, rfl, hf6, hch6, hl6⟩
    have hlen6 : (g5.cells.length : Int) = R * C := by rw [bl5.1]; exact hlen4
    rw [down_succ _ _ 199] at hg6
    split at hg6
    rotate_left
    · simp at hg6
    rename_i hinB2
    have hb2 := inB_some hinB2
    split at hg6
    · simp at hg6
    rename_i g8 hg8
    have bl8 := pif_len hg8
    (try simp only [ctlB])
    repeat' (first | (refine aw_sets (by simp (disch := first | omega | (simp only [lenB]; omega)) only [evB, Sz.cells, Sz.val, *]; rfl) (by simp (disch := first | omega | (simp only [lenB]; omega)) only [evB, Sz.cells, Sz.val, *]) (by simp (disch := first | omega | (simp only [lenB]; omega)) only [evB, Sz.cells, Sz.val, *]; rfl) ?_; (try simp only [ctlB])) | (refine aw_op rfl (by simp (disch := first | omega | (simp only [lenB]; omega)) only [evB, Sz.cells, Sz.val, *]; rfl) (by simp (disch := first | omega | (simp only [lenB]; omega)) only [evB, Sz.cells, Sz.val, *]) (by simp (disch := first | omega | (simp only [lenB]; omega)) only [evB, Sz.cells, Sz.val, *]; rfl) (by simp (disch := first | omega | (simp only [lenB]; omega)) only [evB, Sz.cells, Sz.val, *]; rfl) (by simp (disch := first | omega | (simp only [lenB]; omega)) only [evB, Sz.cells, Sz.val, *]; rfl) ?_; (try simp only [ctlB])))
    refine aw_hv (by simp (disch := first | omega | (simp only [lenB]; omega)) only [evB, Sz.cells, Sz.val, *]; rfl) (by simp (disch := first | omega | (simp only [lenB]; omega)) only [evB, Sz.cells, Sz.val, *]) (by simp (disch := first | omega | (simp only [lenB]; omega)) only [evB, Sz.cells, Sz.val, *]; rfl) ?_
    refine wpH_call0 (place45 hinB2 hd hf6 hlen6 hlp hlq hg8) ?_
    rintro v H8 ⟨hf8, hc8⟩
    have hlen8 : (g8.cells.length : Int) = R * C := by rw [bl8]; exact hlen6
    have hch8 : ∀ i, i < p → H8.get i = H.get i := fun i hi => by rw [hc8.get i (by omega) (by omega) (by omega)]; exact hch6 i hi
    have hl8 : p ≤ H8.length := Nat.le_trans hl6 hc8.len
    (try simp only [ctlB])
    repeat' (first | (refine aw_sets (by simp (disch := first | omega | (simp only [lenB]; omega)) only [evB, Sz.cells, Sz.val, *]; rfl) (by simp (disch := first | omega | (simp only [lenB]; omega)) only [evB, Sz.cells, Sz.val, *]) (by simp (disch := first | omega | (simp only [lenB]; omega)) only [evB, Sz.cells, Sz.val, *]; rfl) ?_; (try simp only [ctlB])) | (refine aw_op rfl (by simp (disch := first | omega | (simp only [lenB]; omega)) only [evB, Sz.cells, Sz.val, *]; rfl) (by simp (disch := first | omega | (simp only [lenB]; omega)) only [evB, Sz.cells, Sz.val, *]) (by simp (disch := first | omega | (simp only [lenB]; omega)) only [evB, Sz.cells, Sz.val, *]; rfl) (by simp (disch := first | omega | (simp only [lenB]; omega)) only [evB, Sz.cells, Sz.val, *]; rfl) (by simp (disch := first | omega | (simp only [lenB]; omega)) only [evB, Sz.cells, Sz.val, *]; rfl) ?_; (try simp only [ctlB])))
    refine aw_midXB (fun S H' => ∃ x4 x7 x8 x9 x10 x11 : Value, S = [.int .i64 R, .int .i64 C, .slice none 0 0, .pointer (some ⟨p, 0, none⟩), x4, .int .i64 rb, .int .i64 cb, x7, x8, x9, x10, x11] ∧ Grd H' p q R C g6 ∧ (∀ i, i < p → H'.get i = H.get i) ∧ p ≤ H'.length) ?_ ?_
    · refine aw_loop' (fun m S H' => ∃ (r c : Int) (g : G) (x4 x7 x8 x9 x10 x11 : Value), S = [.int .i64 R, .int .i64 C, .slice none 0 0, .pointer (some ⟨p, 0, none⟩), x4, .int .i64 r, .int .i64 c, x7, x8, x9, x10, x11] ∧ -4002 ≤ r ∧ r ≤ 4002 ∧ -4002 ≤ c ∧ c ≤ 4002 ∧ Grd H' p q R C g ∧ (g.cells.length : Int) = R * C ∧ (∀ i, i < p → H'.get i = H.get i) ∧ p ≤ H'.length ∧
        (((r < R ∧ 0 ≤ c) ∧ ∃ k, k < m ∧ downG (listOps R C) R k g r c = some (g6, rb, cb)) ∨ (¬ (r < R ∧ 0 ≤ c) ∧ g = g6 ∧ r = rb ∧ c = cb))) 201 ?_ ?_
      · refine ⟨ra + 1 + 2, ca + 3 - 2, g8, _, _, _, _, _, _, rfl, by omega, by omega, by omega, by omega, hf8, hlen8, hch8, hl8, ?_⟩
        split at hg6
        · rename_i hc2; exact .inl ⟨hc2, 199, by omega, hg6⟩
        · rename_i hc2
          simp only [Option.some.injEq, Prod.mk.injEq] at hg6
          exact .inr ⟨hc2, hg6.1, hg6.2.1, hg6.2.2⟩
      rintro m S H6 ⟨r, c, g, x4, x7, x8, x9, x10, x11, rfl, br1, br2, bc1, bc2, hf6, hlen6, hch6, hl6, hcase⟩
      (try simp only [ctlB])
      refine aw_cond (by simp (disch := first | omega | (simp only [lenB]; omega)) only [evB, Sz.cells, Sz.val, *]; rfl) (fun h => ?_) (fun h => ?_)
      · have hcond : r < R ∧ 0 ≤ c := by simpa using h
        clear h
        rcases hcase with ⟨_, k, hkm, hup⟩ | ⟨e, _⟩
        rotate_left
        · exact absurd hcond e
        cases k with
        | zero => simp [downG] at hup
        | succ k =>
        rw [down_succ] at hup
        split at hup
        rotate_left
        · simp at hup
        rename_i hinB
        have hb := inB_some hinB
        split at hup
        · simp at hup
        rename_i g7 hg7
        have hlen7 : (g7.cells.length : Int) = R * C := by rw [pif_len hg7]; exact hlen6
        (try simp only [ctlB])
        refine aw_hv (by simp (disch := first | omega | (simp only [lenB]; omega)) only [evB, Sz.cells, Sz.val, *]; rfl) (by simp (disch := first | omega | (simp only [lenB]; omega)) only [evB, Sz.cells, Sz.val, *]) (by simp (disch := first | omega | (simp only [lenB]; omega)) only [evB, Sz.cells, Sz.val, *]; rfl) ?_
        refine wpH_call0 (place45 hinB hd hf6 hlen6 hlp hlq hg7) ?_
        rintro v H7 ⟨hf7, hc7⟩
        have hch7 : ∀ i, i < p → H7.get i = H.get i := fun i hi => by rw [hc7.get i (by omega) (by omega) (by omega)]; exact hch6 i hi
        have hl7 : p ≤ H7.length := Nat.le_trans hl6 hc7.len
        (try simp only [ctlB])
        repeat' (first | (refine aw_sets (by simp (disch := first | omega | (simp only [lenB]; omega)) only [evB, Sz.cells, Sz.val, *]; rfl) (by simp (disch := first | omega | (simp only [lenB]; omega)) only [evB, Sz.cells, Sz.val, *]) (by simp (disch := first | omega | (simp only [lenB]; omega)) only [evB, Sz.cells, Sz.val, *]; rfl) ?_; (try simp only [ctlB])) | (refine aw_op rfl (by simp (disch := first | omega | (simp only [lenB]; omega)) only [evB, Sz.cells, Sz.val, *]; rfl) (by simp (disch := first | omega | (simp only [lenB]; omega)) only [evB, Sz.cells, Sz.val, *]) (by simp (disch := first | omega | (simp only [lenB]; omega)) only [evB, Sz.cells, Sz.val, *]; rfl) (by simp (disch := first | omega | (simp only [lenB]; omega)) only [evB, Sz.cells, Sz.val, *]; rfl) (by simp (disch := first | omega | (simp only [lenB]; omega)) only [evB, Sz.cells, Sz.val, *]; rfl) ?_; (try simp only [ctlB])))
        simp only [loopQ_n]
        split at hup
        · rename_i hc2
          exact ⟨m - 1, by omega, r + 2, c - 2, g7, _, _, _, _, _, _, rfl, by omega, by omega, by omega, by omega, hf7, hlen7, hch7, hl7, .inl ⟨hc2, k, by omega, hup⟩⟩
        · rename_i hc2
          simp only [Option.some.injEq, Prod.mk.injEq] at hup
          exact ⟨m - 1, by omega, r + 2, c - 2, g7, _, _, _, _, _, _, rfl, by omega, by omega, by omega, by omega, hf7, hlen7, hch7, hl7, .inr ⟨hc2, hup.1, hup.2.1, hup.2.2⟩⟩
      · have hcond : ¬ (r < R ∧ 0 ≤ c) := by simpa using h
        clear h
        rcases hcase with ⟨e, _⟩ | ⟨_, rfl, rfl, rfl⟩
        · exact absurd e hcond
        (try simp only [ctlB])
        exact ⟨_, _, _, _, _, _, rfl, hf6, hch6, hl6⟩
    rintro S H9 ⟨z4, z7, z8, z9, z10, z11, rfl, hf9, hch9, hl9⟩
    have hlen9 : (g6.cells.length : Int) = R * C := by rw [bl6.1]; exact hlen6
    (try simp only [ctlB])
    repeat' (first | (refine aw_sets (by simp (disch := first | omega | (simp only [lenB]; omega)) only [evB, Sz.cells, Sz.val, *]; rfl) (by simp (disch := first | omega | (simp only [lenB]; omega)) only [evB, Sz.cells, Sz.val, *]) (by simp (disch := first | omega | (simp only [lenB]; omega)) only [evB, Sz.cells, Sz.val, *]; rfl) ?_; (try simp only [ctlB])) | (refine aw_op rfl (by simp (disch := first | omega | (simp only [lenB]; omega)) only [evB, Sz.cells, Sz.val, *]; rfl) (by simp (disch := first | omega | (simp only [lenB]; omega)) only [evB, Sz.cells, Sz.val, *]) (by simp (disch := first | omega | (simp only [lenB]; omega)) only [evB, Sz.cells, Sz.val, *]; rfl) (by simp (disch := first | omega | (simp only [lenB]; omega)) only [evB, Sz.cells, Sz.val, *]; rfl) (by simp (disch := first | omega | (simp only [lenB]; omega)) only [evB, Sz.cells, Sz.val, *]; rfl) ?_; (try simp only [ctlB])))
    simp only [loopQ_n]
    split at hout
    · rename_i hc2
      exact ⟨k + 1, by omega, rb + 3, cb + 1, g6, _, _, _, _, _, _, rfl, hf9, hlen9, hch9, hl9, .inl ⟨hc2, k, rfl, hout⟩⟩
    · rename_i hc2
      cases hout
      exact ⟨0, by omega, rb + 3, cb + 1, gf, _, _, _, _, _, _, rfl, hf9, hlen9, hch9, hl9, .inr ⟨hc2, rfl, rfl⟩⟩
  · have hcond : ¬ (r < R ∨ c < C) := by simpa using h
    clear h
    rcases hcase with ⟨e, _⟩ | ⟨_, _, rfl⟩
    · exact absurd e hcond
    have fp := hf3.fp
    (try simp only [ctlB])
    repeat' (first | (refine aw_sets (by simp (disch := first | omega | (simp only [lenB]; omega)) only [evB, Sz.cells, Sz.val, *]; rfl) (by simp (disch := first | omega | (simp only [lenB]; omega)) only [evB, Sz.cells, Sz.val, *]) (by simp (disch := first | omega | (simp only [lenB]; omega)) only [evB, Sz.cells, Sz.val, *]; rfl) ?_; (try simp only [ctlB])) | (refine aw_op rfl (by simp (disch := first | omega | (simp only [lenB]; omega)) only [evB, Sz.cells, Sz.val, *]; rfl) (by simp (disch := first | omega | (simp only [lenB]; omega)) only [evB, Sz.cells, Sz.val, *]) (by simp (disch := first | omega | (simp only [lenB]; omega)) only [evB, Sz.cells, Sz.val, *]; rfl) (by simp (disch := first | omega | (simp only [lenB]; omega)) only [evB, Sz.cells, Sz.val, *]; rfl) (by simp (disch := first | omega | (simp only [lenB]; omega)) only [evB, Sz.cells, Sz.val, *]; rfl) ?_; (try simp only [ctlB])))
    refine body_ret (by simp only [cf28]; simp (disch := first | omega | (simp only [lenB]; omega)) only [evB, Sz.cells, Sz.val, *]; rfl) ?_
    exact ⟨⟨by omega, fun i hi => hch3 i (by omega)⟩, q, by omega, rfl, hf3.fq⟩
end Go.Proofs.Ytobfjbominbkmaa
