/- QrblocksEncodes returns true for every list of numbers, version and level: Encode agrees with the reference. No conditions. -/
import Derived.Test.YtkeagffmmhllcaaGreatP23
import Derived.Test.YtkeagffmmhllcaaGreatP24
set_option linter.unusedVariables false
set_option linter.unusedSimpArgs false
set_option linter.unusedSectionVars false
namespace Go.Proofs.YtkeagffmmhllcaaGreat
open Go.Abs
namespace qrblocksEncodes
open Go.ChangeShapes Go.WideShapes Go.ChangeAt Go.RowKit
theorem fnE(X:Type)(ds:List (DataW X))(h:ds.length=3):Rows.qrblocksEncodesSpec.fn X ds=⟨[.lit (.bool true)],ds,[]⟩:=by
 match ds,h with
 | [d1,d2,d3],_=>rfl
theorem lawAll(H:Heap)(vs:List Value)(h:HasArgs maxLen H [.sl (.int .i64),.int .i64,.int .i64] vs):Ev cp H.length 3 vs H (fun v _=>v=.bool true):=by
 simp only[HasArgs]at h
 obtain⟨a1,r1,rfl,h1,a2,r2,rfl,h2,a3,r3,rfl,h3,rfl⟩:=h
 simp only[HasArg]at h1 h2 h3
 obtain⟨vd,d,e1,hd,_⟩:=sl_one h1
 cases e1
 obtain⟨v,e2,_⟩:=has_int h2
 cases e2
 obtain⟨l,e3,_⟩:=has_int h3
 cases e3
 exact lawEnc hd
set_option maxRecDepth 100000 in
theorem lifted(os:Os)(started:os.Started)(H:Type)(enc:TypeId×Value→H) :
  ReturnsInHanded {} Tryz.checked os 3 .any (Rows.qrblocksEncodesSpec.pre6 enc Tryz.prog Tryz.f3 Rows.qrblocksEncodesRow.domain false) (Rows.qrblocksEncodesSpec.post enc Tryz.prog Tryz.f3 false true false false):=by
 refine returnsInHanded_of_change (C:=Tryz.checked) own started (by kernel_rfl) Tryz.func3
  (ChangeSpec.witness6 (enc:=enc) (C:=Tryz.checked) false ⟨#[],#[.slice none 0 0,.int .i64 0,.int .i64 0],[]⟩ 8 (by kernel_rfl) (by kernel_rfl) (by kernel_rfl) (by kernel_rfl)) ?_
 intro W base args ds gs before hval hW _ _
 exact law_contract (P:=Tryz.prog) (fn:=Tryz.f3) (s:=Rows.qrblocksEncodesSpec) okAll (d:=8) (tys:=[.sl (.int .i64),.int .i64,.int .i64]) (by kernel_rfl) (by kernel_rfl) (by kernel_rfl) Tryz.underlying4 laidOut (by kernel_rfl) rfl fnE lawAll W (by rw[noGlobals];omega) base args ds gs before hval hW (fun x _=>.inl (Nat.le_refl _))
theorem over:Rows.qrblocksEncodesRow.holds Tryz.pinned (OpenSpec.ofChange Rows.qrblocksEncodesSpec):=
 OpenClaim.holds_of_wide 3 Tryz.f3 rfl rfl rfl rfl rfl rfl rfl ⟨rfl,rfl,rfl,rfl,rfl⟩ rfl rfl rfl rfl rfl (by kernel_rfl) Tryz.func3 (by kernel_rfl)
  (of_decide_eq_true (by kernel_rfl)) (by unfold Func.isWrapper;first|(rw[if_pos (by decide +kernel)];kernel_rfl)|(rw[if_neg (by decide +kernel)];exact⟨rfl,rfl⟩))
  (fun os started H enc _=>lifted os started H enc)
theorem proved:Rows.QrblocksEncodesSaid:=over
#print axioms proved
end qrblocksEncodes
end Go.Proofs.YtkeagffmmhllcaaGreat
