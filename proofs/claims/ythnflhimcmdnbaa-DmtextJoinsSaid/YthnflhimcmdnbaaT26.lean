/- DmtextJoins returns true for every input: two payloads one after the other need at most the sum of their codewords. No conditions. -/
import Derived.Test.YthnflhimcmdnbaaT21
import Derived.Test.YthnflhimcmdnbaaT25
set_option linter.unusedVariables false
set_option linter.unusedSimpArgs false
set_option linter.unusedSectionVars false
namespace Go.Proofs.Ythnflhimcmdnbaa
open Go.Abs
namespace dmtextJoins
open Go.ChangeShapes Go.WideShapes Go.ChangeAt Go.RowKit
theorem fnE(X:Type)(ds:List (DataW X))(h:ds.length=2):Rows.dmtextJoinsSpec.fn X ds=⟨[.lit (.bool true)],ds,[]⟩:=by
 match ds,h with
 | [d1,d2],_=>rfl
theorem lawAll(H:Heap)(vs:List Value)(h:HasArgs maxLen H [.sl (.int .u8),.sl (.int .u8)] vs):Ev cp H.length 7 vs H (fun v _=>v=.bool true):=by
 simp only[HasArgs]at h
 obtain⟨a1,r1,rfl,h1,a2,r2,rfl,h2,rfl⟩:=h
 obtain⟨l,hl⟩:=bytes_of h1
 obtain⟨m,hm⟩:=bytes_of h2
 exact lawJoins hl hm (Nat.le_refl _)
set_option maxRecDepth 100000 in
theorem lifted(os:Os)(started:os.Started)(H:Type)(enc:TypeId×Value→H) :
  ReturnsInHanded {} Try.checked os 7 .any (Rows.dmtextJoinsSpec.pre6 enc Try.prog Try.f7 Rows.dmtextJoinsRow.domain false) (Rows.dmtextJoinsSpec.post enc Try.prog Try.f7 false true false false):=by
 refine returnsInHanded_of_change (C:=Try.checked) own started (by kernel_rfl) Try.func7
  (ChangeSpec.witness6 (enc:=enc) (C:=Try.checked) false ⟨#[],#[.slice none 0 0,.slice none 0 0],[]⟩ 8 (by kernel_rfl) (by kernel_rfl) (by kernel_rfl) (by kernel_rfl)) ?_
 intro W base args ds gs before hval hW _ _
 exact law_contract (P:=Try.prog) (fn:=Try.f7) (s:=Rows.dmtextJoinsSpec) okAll (d:=8) (tys:=[.sl (.int .u8),.sl (.int .u8)]) (by kernel_rfl) (by kernel_rfl) (by kernel_rfl) Try.underlying4 laidOut (by kernel_rfl) rfl fnE lawAll W (by rw[noGlobals];omega) base args ds gs before hval hW (fun x _=>.inl (Nat.le_refl _))
theorem over:Rows.dmtextJoinsRow.holds Try.pinned (OpenSpec.ofChange Rows.dmtextJoinsSpec):=
 OpenClaim.holds_of_wide 7 Try.f7 rfl rfl rfl rfl rfl rfl rfl ⟨rfl,rfl,rfl,rfl,rfl⟩ rfl rfl rfl rfl rfl (by kernel_rfl) Try.func7 (by kernel_rfl)
  (of_decide_eq_true (by kernel_rfl)) (by unfold Func.isWrapper;first|(rw[if_pos (by decide +kernel)];kernel_rfl)|(rw[if_neg (by decide +kernel)];exact⟨rfl,rfl⟩))
  (fun os started H enc _=>lifted os started H enc)
theorem proved:Rows.DmtextJoinsSaid:=over
#print axioms proved
end dmtextJoins
end Go.Proofs.Ythnflhimcmdnbaa
