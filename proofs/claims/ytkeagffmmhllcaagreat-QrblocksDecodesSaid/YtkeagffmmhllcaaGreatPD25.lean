/- QrblocksDecodes returns true for all words, erased codewords, versions and levels: Decode agrees with the reference. No conditions. -/
import Derived.Test.YtkeagffmmhllcaaGreatPD23
import Derived.Test.YtkeagffmmhllcaaGreatPD24
set_option linter.unusedVariables false
set_option linter.unusedSimpArgs false
set_option linter.unusedSectionVars false
namespace Go.Proofs.YtkeagffmmhllcaaGreat
open Go.Abs
namespace qrblocksDecodes
open Go.ChangeShapes Go.WideShapes Go.ChangeAt Go.RowKit
theorem fnE(X:Type)(ds:List (DataW X))(h:ds.length=4):Rows.qrblocksDecodesSpec.fn X ds=⟨[.lit (.bool true)],ds,[]⟩:=by
 match ds,h with
 | [d1,d2,d3,d4],_=>rfl
theorem lawAll(H:Heap)(vs:List Value)(h:HasArgs maxLen H [.sl (.int .i64),.sl .bool,.int .i64,.int .i64] vs):Ev cp H.length 4 vs H (fun v _=>v=.bool true):=by
 simp only[HasArgs]at h
 obtain⟨a1,r1,rfl,h1,a2,r2,rfl,h2,a3,r3,rfl,h3,a4,r4,rfl,h4,rfl⟩:=h
 simp only[HasArg]at h1 h2 h3 h4
 obtain⟨vw,lw,e1,hw,_⟩:=sl_one h1
 cases e1
 obtain⟨ae,le,ce,e2,s1,s2⟩:=sl_b h2
 cases e2
 obtain⟨p,e3,hp⟩:=has_int h3
 cases e3
 obtain⟨q,e4,hq⟩:=has_int h4
 cases e4
 exact lawDecQ hw s1
set_option maxRecDepth 100000 in
theorem lifted(os:Os)(started:os.Started)(H:Type)(enc:TypeId×Value→H) :
  ReturnsInHanded {} Tryz.checked os 4 .any (Rows.qrblocksDecodesSpec.pre6 enc Tryz.prog Tryz.f4 Rows.qrblocksDecodesRow.domain false) (Rows.qrblocksDecodesSpec.post enc Tryz.prog Tryz.f4 false true false false):=by
 refine returnsInHanded_of_change (C:=Tryz.checked) own started (by kernel_rfl) Tryz.func4
  (ChangeSpec.witness6 (enc:=enc) (C:=Tryz.checked) false ⟨#[],#[.slice none 0 0,.slice none 0 0,.int .i64 0,.int .i64 0],[]⟩ 8 (by kernel_rfl) (by kernel_rfl) (by kernel_rfl) (by kernel_rfl)) ?_
 intro W base args ds gs before hval hW _ _
 exact law_contract (P:=Tryz.prog) (fn:=Tryz.f4) (s:=Rows.qrblocksDecodesSpec) okAll (d:=8) (tys:=[.sl (.int .i64),.sl .bool,.int .i64,.int .i64]) (by kernel_rfl) (by kernel_rfl) (by kernel_rfl) Tryz.underlying4 laidOut (by kernel_rfl) rfl fnE lawAll W (by rw[noGlobals];omega) base args ds gs before hval hW (fun x _=>.inl (Nat.le_refl _))
theorem over:Rows.qrblocksDecodesRow.holds Tryz.pinned (OpenSpec.ofChange Rows.qrblocksDecodesSpec):=
 OpenClaim.holds_of_wide 4 Tryz.f4 rfl rfl rfl rfl rfl rfl rfl ⟨rfl,rfl,rfl,rfl,rfl⟩ rfl rfl rfl rfl rfl (by kernel_rfl) Tryz.func4 (by kernel_rfl)
  (of_decide_eq_true (by kernel_rfl)) (by unfold Func.isWrapper;first|(rw[if_pos (by decide +kernel)];kernel_rfl)|(rw[if_neg (by decide +kernel)];exact⟨rfl,rfl⟩))
  (fun os started H enc _=>lifted os started H enc)
theorem proved:Rows.QrblocksDecodesSaid:=over
#print axioms proved
end qrblocksDecodes
end Go.Proofs.YtkeagffmmhllcaaGreat
