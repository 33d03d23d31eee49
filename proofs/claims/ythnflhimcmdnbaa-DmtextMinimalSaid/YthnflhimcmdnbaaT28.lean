/- DmtextMinimal returns true for every input: no sequence of codewords from which a payload is decoded is shorter. No conditions. -/
import Derived.Test.YthnflhimcmdnbaaT21
import Derived.Test.YthnflhimcmdnbaaT27
set_option linter.unusedVariables false
set_option linter.unusedSimpArgs false
set_option linter.unusedSectionVars false
namespace Go.Proofs.Ythnflhimcmdnbaa
open Go.Abs
namespace dmtextMinimal
open Go.ChangeShapes Go.WideShapes Go.ChangeAt Go.RowKit
theorem fnE(X:Type)(ds:List (DataW X))(h:ds.length=1):Rows.dmtextMinimalSpec.fn X ds=⟨[.lit (.bool true)],ds,[]⟩:=by
 match ds,h with
 | [d1],_=>rfl
theorem lawAll(H:Heap)(vs:List Value)(h:HasArgs maxLen H [.sl (.int .i64)] vs):Ev cp H.length 6 vs H (fun v _=>v=.bool true):=by
 simp only[HasArgs]at h
 obtain⟨a1,r1,rfl,h1,rfl⟩:=h
 obtain⟨l,hl⟩:=ints_of h1
 exact lawMin hl (Nat.le_refl _)
set_option maxRecDepth 100000 in
theorem lifted(os:Os)(started:os.Started)(H:Type)(enc:TypeId×Value→H) :
  ReturnsInHanded {} Try.checked os 6 .any (Rows.dmtextMinimalSpec.pre6 enc Try.prog Try.f6 Rows.dmtextMinimalRow.domain false) (Rows.dmtextMinimalSpec.post enc Try.prog Try.f6 false true false false):=by
 refine returnsInHanded_of_change (C:=Try.checked) own started (by kernel_rfl) Try.func6
  (ChangeSpec.witness6 (enc:=enc) (C:=Try.checked) false ⟨#[],#[.slice none 0 0],[]⟩ 8 (by kernel_rfl) (by kernel_rfl) (by kernel_rfl) (by kernel_rfl)) ?_
 intro W base args ds gs before hval hW _ _
 exact law_contract (P:=Try.prog) (fn:=Try.f6) (s:=Rows.dmtextMinimalSpec) okAll (d:=8) (tys:=[.sl (.int .i64)]) (by kernel_rfl) (by kernel_rfl) (by kernel_rfl) Try.underlying4 laidOut (by kernel_rfl) rfl fnE lawAll W (by rw[noGlobals];omega) base args ds gs before hval hW (fun x _=>.inl (Nat.le_refl _))
theorem over:Rows.dmtextMinimalRow.holds Try.pinned (OpenSpec.ofChange Rows.dmtextMinimalSpec):=
 OpenClaim.holds_of_wide 6 Try.f6 rfl rfl rfl rfl rfl rfl rfl ⟨rfl,rfl,rfl,rfl,rfl⟩ rfl rfl rfl rfl rfl (by kernel_rfl) Try.func6 (by kernel_rfl)
  (of_decide_eq_true (by kernel_rfl)) (by unfold Func.isWrapper;first|(rw[if_pos (by decide +kernel)];kernel_rfl)|(rw[if_neg (by decide +kernel)];exact⟨rfl,rfl⟩))
  (fun os started H enc _=>lifted os started H enc)
theorem proved:Rows.DmtextMinimalSaid:=over
#print axioms proved
end dmtextMinimal
end Go.Proofs.Ythnflhimcmdnbaa
