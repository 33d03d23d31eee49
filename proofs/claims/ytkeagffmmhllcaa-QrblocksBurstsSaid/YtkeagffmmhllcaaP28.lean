/- QR blocks: the data of the laws; costs that grow. -/
import Derived.Test.YtkeagffmmhllcaaP23
set_option linter.unusedVariables false
set_option linter.unusedSimpArgs false
set_option linter.unusedSectionVars false
namespace Go.Proofs.Ytkeagffmmhllcaa
open Go.Abs Go.RS
set_option linter.unusedSimpArgs false
set_option linter.unusedVariables false
set_option maxRecDepth 20000
section
variable {lo : Nat} {H : Heap} {v l : Int}
theorem cpV_vl {i : Nat} (hi : i < 160) (ha : [Value.int .i64 v, Value.int .i64 l] = arg i) (hlo : lo ≤ H.length) : Ev cp lo 30 [.int .i64 v, .int .i64 l] H (fun r H' => Ext H H' ∧ r = .tuple #[.int .i64 ((bk i).cap : Nat), .int .i64 0]) := by
 rw [ha]; exact cpV_ok hi hlo
theorem dataP_bad {vp : Value} (hlo : lo ≤ H.length) (hno : ¬ Vl v l) : Ev cp lo 15 [.int .i64 v, .int .i64 l, vp] H (fun r H' => Ext H H' ∧ r = .slice none 0 0) := by
 have hne := eVl_ne (v := v)
 refine st15 ?_; unfold bd15 cf15; simp only [kB, ctlB]
 repeat' ((first | refine xSQd ?_ | refine xOQd rfl ?_); (try simp only [ctlB]))
 refine xHQd ?_
 refine wpH_call0 (cpV_bad (v := v) (l := l) hlo hno) ?_
 rintro r H1 ⟨hx1, rfl⟩
 generalize eVl v = e at *
 (try simp only [ctlB])
 repeat' ((first | refine xSQd ?_ | refine xOQd rfl ?_); (try simp only [ctlB]))
 refine xCQd (fun h => ?_) (fun h => ?_)
 case refine_2 => exfalso; simp at h <;> omega
 clear h
 (try simp only [ctlB])
 repeat' ((first | refine xSQd ?_ | refine xOQd rfl ?_); (try simp only [ctlB]))
 refine xRQd ?_
 exact ⟨hx1, rfl⟩
theorem dataP {vp : Value} {p : List Int} {i : Nat} (hp : SlY H vp p) (hpr : ∀ x ∈ p, 0 ≤ x ∧ x ≤ 255) (hpl : p.length ≤ 9223372036854775807) (hi : i < 160) (ha : [Value.int .i64 v, Value.int .i64 l] = arg i) (hlo : lo ≤ H.length) : Ev cp lo 15 [.int .i64 v, .int .i64 l, vp] H (fun r H' => Ext H H' ∧ ∃ d : List (El F5), d.length = (bk i).cap ∧ SlW H' r (valI d)) := by
 have hb := bk_ok hi
 have hcp := cpV_vl hi ha hlo
 clear ha
 have hp0 := hp
 obtain ⟨ap, cq, rfl⟩ := hp.len
 refine st15 ?_; unfold bd15 cf15; simp only [kB, ctlB]
 repeat' ((first | refine xSQd ?_ | refine xOQd rfl ?_); (try simp only [ctlB]))
 refine xHQd ?_
 refine wpH_call0 hcp ?_
 rintro r H1 ⟨hx1, rfl⟩
 clear hcp
 have hbl := hb.all
 have hbc : (bk i).cap ≤ 3706 := by
  have : (bk i).all = (bk i).cap + (bk i).n * (bk i).ck := rfl
  omega
 generalize (bk i).cap = N at *
 have hl1 := hx1.1
 (try simp only [ctlB])
 repeat' ((first | refine xSQd ?_ | refine xOQd rfl ?_); (try simp only [ctlB]))
 refine xCQd (fun h => ?_) (fun h => ?_)
 ·simp at h
 clear h
 (try simp only [ctlB])
 repeat' ((first | refine xSQd ?_ | refine xOQd rfl ?_); (try simp only [ctlB]))
 refine aw_for (fun k S H' => Ext H1 H' ∧ ∃ (d : List (El F5)) (vo : Value) (bo : Nat), d.length = k ∧ Own H1.length 1 H' vo bo (intL (valI d)) ∧ ∃ (z : Nat → Value), S = [z 0, z 1, .slice ap p.length cq, z 3, .int .i64 (N : Nat), z 5, vo, .int .i64 (k : Nat), z 8, z 9, z 10, z 11, z 12]) N ?_ ?_ ?_ ?_
 ·exact ⟨Ext.refl _, [], _, _, rfl, Own.nil (Nat.le_refl _), exZGc  rfl⟩
 ·rintro k S H' hk ⟨hx, d, vo, bo, -, -, z,  rfl⟩
  exact ⟨_, by simp (disch := first | omega | (simp only [lenB]; omega)) only [evB, xBQd, Nat.reduceAdd, Nat.reduceBEq, *]; rfl, by simp⟩
 ·rintro k S H2 hk ⟨hx2, d, vo, bo, hd, oo, z,  rfl⟩
  have hl2 := hx2.1
  have hdl : (valI d).length ≤ 4000 := by rw [valI_len]; omega
  have fin : ∀ (n : Nat) (H3 : Heap) (S' : List Value), n < 256 → ∀ (v' : Value) (b' : Nat), Own H1.length 1 H3 v' b' (intL (valI d ++ [((n : Nat) : Int)])) → ∃ (d' : List (El F5)) (b' : Nat), d'.length = k + 1 ∧ Own H1.length 1 H3 v' b' (intL (valI d')) := by
   intro n H3 S' hn v' b' ho
   refine ⟨d ++ [eB 285 n], b', by simp [hd], ?_⟩
   have : valI (d ++ [eB 285 n]) = valI d ++ [((n : Nat) : Int)] := by
    simp [valI, eB, Nat.mod_eq_of_lt hn]
   rw [this]; exact ho
  clear hd
  generalize valI d = vd at *
  (try simp only [ctlB])
  repeat' ((first | refine xSQd ?_ | refine xOQd rfl ?_); (try simp only [ctlB]))
  by_cases h0 : 0 < p.length
  ·obtain ⟨xb, xo, xsp, xc, xs, e1, g1, f1, _⟩ := (hp0.mono (hx1.trans hx2)).els 0 h0
   cases e1
   have hm : k % p.length < p.length := Nat.mod_lt _ h0
   have k1 := f1 _ hm
   have hr := hpr (p.getD (k % p.length) 0) (by rw [List.getD_eq_getElem?_getD, List.getElem?_eq_getElem hm]; exact List.getElem_mem hm)
   obtain ⟨y, hy⟩ : ∃ y : Nat, p.getD (k % p.length) 0 = (y : Int) := ⟨_, (Int.toNat_of_nonneg hr.1).symm⟩
   rw [hy] at k1 hr
   have q1 := (Int.ofNat_tmod k p.length).symm
   have q2 := (Int.ofNat_tdiv k p.length).symm
   have q3 : (((k / p.length : Nat) : Int)).tmod 256 = ((k / p.length % 256 : Nat) : Int) := (Int.ofNat_tmod (k / p.length) 256).symm
   have hdv : k / p.length ≤ k := Nat.div_le_self _ _
   have hy2 : y < 2 ^ 8 := by omega
   have hxr0 := xor_int (a := y) (b := k / p.length % 256) (by omega) (by omega)
   have hxb : y ^^^ (k / p.length % 256) < 256 := Nat.xor_lt_two_pow (n := 8) hy2 (by omega)
   have hxg := Heap.get_lt g1
   obtain ⟨n, hn, hxr⟩ : ∃ n : Nat, n < 256 ∧ IntKind.i64.wrap ((BitVec.ofInt IntKind.i64.bits (y : Int) ^^^ BitVec.ofInt IntKind.i64.bits ((k / p.length % 256 : Nat) : Int)).toNat : Int) = ((n : Nat) : Int) := ⟨_, hxb, hxr0⟩
   clear f1 hy hxb hxr0
   generalize k / p.length % 256 = q at *
   generalize k / p.length = qq at *
   generalize k % p.length = mm at *
   refine xCQd (fun h => ?_) (fun h => ?_)
   case refine_2 => exfalso; simp only [decide_eq_false_iff_not] at h; omega
   clear h
   (try simp only [ctlB])
   repeat' ((first | refine xSQd ?_ | refine xOQd rfl ?_); (try simp only [ctlB]))
   refine xHQd ?_
   refine wpH_app (b := bo) (cells := intL vd) (c := intL [((n : Nat) : Int)]) ((oo.mono (Ext.app _ _)).lower (by omega)) (by simp; omega) (by omega) (by omega) (by rw [intL_len]; omega) get_app0 (by simp) rfl rfl ?_
   rw [← intL_app]
   intro vo' H3 oo' hk3 hl3
   have hx3 := hk3.ext (hx2.trans (Ext.app H2 _)) oo.1
   obtain ⟨d', b', hd', oo'⟩ := fin n H3 [] (by omega) vo' _ ⟨by simp; omega, oo'.2⟩
   (try simp only [ctlB])
   repeat' ((first | refine xSQd ?_ | refine xOQd rfl ?_); (try simp only [ctlB]))
   exact ⟨hx3, d', vo', b', hd', oo', exZGc  (by first | rfl | (simp only [Int.natCast_add, Int.natCast_one]; rfl) | simp only [Int.natCast_add, Int.natCast_one])⟩
  ·refine xCQd (fun h => ?_) (fun h => ?_)
   ·exfalso; simp only [decide_eq_true_eq] at h; omega
   clear h
   (try simp only [ctlB])
   repeat' ((first | refine xSQd ?_ | refine xOQd rfl ?_); (try simp only [ctlB]))
   refine xHQd ?_
   refine wpH_app (b := bo) (cells := intL vd) (c := intL [((0 : Nat) : Int)]) ((oo.mono (Ext.app _ _)).lower (by omega)) (by simp; omega) (by omega) (by omega) (by rw [intL_len]; omega) get_app0 (by simp) rfl rfl ?_
   rw [← intL_app]
   intro vo' H3 oo' hk3 hl3
   have hx3 := hk3.ext (hx2.trans (Ext.app H2 _)) oo.1
   obtain ⟨d', b', hd', oo'⟩ := fin 0 H3 [] (by omega) vo' _ ⟨by simp; omega, oo'.2⟩
   (try simp only [ctlB])
   repeat' ((first | refine xSQd ?_ | refine xOQd rfl ?_); (try simp only [ctlB]))
   exact ⟨hx3, d', vo', b', hd', oo', exZGc  (by first | rfl | (simp only [Int.natCast_add, Int.natCast_one]; rfl) | simp only [Int.natCast_add, Int.natCast_one])⟩
 ·rintro S H2 ⟨hx2, d, vo, bo, hd, oo, z,  rfl⟩
  (try simp only [ctlB])
  repeat' ((first | refine xSQd ?_ | refine xOQd rfl ?_); (try simp only [ctlB]))
  refine xRQd ?_
  exact ⟨hx1.trans hx2, d, hd, SlW.ofOwn oo⟩
end
end Go.Proofs.Ytkeagffmmhllcaa
