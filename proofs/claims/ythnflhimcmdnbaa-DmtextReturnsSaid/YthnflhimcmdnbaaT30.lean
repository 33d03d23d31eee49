/- DmtextReturns returns true for every input: a payload is decoded from its codewords, also if pad codewords follow. No conditions. -/
import Derived.Test.YthnflhimcmdnbaaT21
import Derived.Test.YthnflhimcmdnbaaT29
set_option linter.unusedVariables false
set_option linter.unusedSimpArgs false
set_option linter.unusedSectionVars false
namespace Go.Proofs.Ythnflhimcmdnbaa
open Go.Abs
namespace dmtextReturns
open Go.ChangeShapes Go.WideShapes Go.ChangeAt Go.RowKit
theorem fnE(X:Type)(ds:List (DataW X))(h:ds.length=2):Rows.dmtextReturnsSpec.fn X ds=⟨[.lit (.bool true)],ds,[]⟩:=by
 match ds,h with
 | [d1,d2],_=>rfl
theorem lawAll(H:Heap)(vs:List Value)(h:HasArgs maxLen H [.sl (.int .u8),.int .i64] vs):Ev cp H.length 5 vs H (fun v _=>v=.bool true):=by
 simp only[HasArgs]at h
 obtain⟨a1,r1,rfl,h1,a2,r2,rfl,h2,rfl⟩:=h
 obtain⟨l,hl⟩:=bytes_of h1
 obtain⟨n,rfl,hn⟩:=int_of h2
 exact lawRet hl (Nat.le_refl _)
set_option maxRecDepth 100000 in
theorem lifted(os:Os)(started:os.Started)(H:Type)(enc:TypeId×Value→H) :
  ReturnsInHanded {} Try.checked os 5 .any (Rows.dmtextReturnsSpec.pre6 enc Try.prog Try.f5 Rows.dmtextReturnsRow.domain false) (Rows.dmtextReturnsSpec.post enc Try.prog Try.f5 false true false false):=by
 refine returnsInHanded_of_change (C:=Try.checked) own started (by kernel_rfl) Try.func5
  (ChangeSpec.witness6 (enc:=enc) (C:=Try.checked) false ⟨#[],#[.slice none 0 0,.int .i64 0],[]⟩ 8 (by kernel_rfl) (by kernel_rfl) (by kernel_rfl) (by kernel_rfl)) ?_
 intro W base args ds gs before hval hW _ _
 exact law_contract (P:=Try.prog) (fn:=Try.f5) (s:=Rows.dmtextReturnsSpec) okAll (d:=8) (tys:=[.sl (.int .u8),.int .i64]) (by kernel_rfl) (by kernel_rfl) (by kernel_rfl) Try.underlying4 laidOut (by kernel_rfl) rfl fnE lawAll W (by rw[noGlobals];omega) base args ds gs before hval hW (fun x _=>.inl (Nat.le_refl _))
theorem over:Rows.dmtextReturnsRow.holds Try.pinned (OpenSpec.ofChange Rows.dmtextReturnsSpec):=
 OpenClaim.holds_of_wide 5 Try.f5 rfl rfl rfl rfl rfl rfl rfl ⟨rfl,rfl,rfl,rfl,rfl⟩ rfl rfl rfl rfl rfl (by kernel_rfl) Try.func5 (by kernel_rfl)
  (of_decide_eq_true (by kernel_rfl)) (by unfold Func.isWrapper;first|(rw[if_pos (by decide +kernel)];kernel_rfl)|(rw[if_neg (by decide +kernel)];exact⟨rfl,rfl⟩))
  (fun os started H enc _=>lifted os started H enc)
theorem proved:Rows.DmtextReturnsSaid:=over
#print axioms proved
end dmtextReturns
end Go.Proofs.Ythnflhimcmdnbaa
