/- DatamatrixRoundTrip returns true for every payload and either choice of shapes: Decode of what Encode returns is the payload, with 0 corrected codewords. No conditions. -/
import Derived.Test.YtmnlgdpdgjbfgaaGreatW41
import Derived.Test.YtmnlgdpdgjbfgaaGreatW42
set_option linter.all false
namespace Go.Proofs.YtmnlgdpdgjbfgaaGreat
open Go.Abs
namespace datamatrixRoundTrip
open Go.ChangeShapes Go.WideShapes Go.ChangeAt Go.RowKit
theorem fnE(X:Type)(ds:List (DataW X))(h:ds.length=2):Rows.datamatrixRoundTripSpec.fn X ds=⟨[.lit (.bool true)],ds,[]⟩:=by
 match ds,h with
 | [d1,d2],_=>rfl
theorem lawAll(H:Heap)(vs:List Value)(h:nb maxLen H [.sl (.int .u8),.bool] vs):Ev cp H.length 7 vs H (fun v _=>v=.bool true):=by
 simp only[nb]at h;obtain⟨a1,r1,rfl,h1,a2,r2,rfl,h2,rfl⟩:=h;obtain⟨l,hl⟩:=Dr h1;obtain⟨b,rfl⟩:=Dl h2;exact Iv hl
set_option maxRecDepth 100000 in
theorem lifted(os:Os)(started:os.Started)(H:Type)(enc:TypeId×Value->H) :
  ReturnsInHanded {} Tryz.checked os 7 .any (Rows.datamatrixRoundTripSpec.pre6 enc Tryz.prog Tryz.f7 Rows.datamatrixRoundTripRow.domain false) (Rows.datamatrixRoundTripSpec.post enc Tryz.prog Tryz.f7 false true false false):=by
 refine returnsInHanded_of_change (C:=Tryz.checked) own started (by kernel_rfl) Tryz.func7
  (ChangeSpec.witness6 (enc:=enc) (C:=Tryz.checked) false ⟨#[],#[.slice none 0 0,.bool false],[]⟩ 8 (by kernel_rfl) (by kernel_rfl) (by kernel_rfl) (by kernel_rfl)) ?_
 intro W base args ds gs before dJ hW _ _;exact vV (P:=Tryz.prog) (fn:=Tryz.f7) (s:=Rows.datamatrixRoundTripSpec) Q5 (d:=8) (tys:=[.sl (.int .u8),.bool]) (by kernel_rfl) (by kernel_rfl) (by kernel_rfl) Tryz.underlying4 laidOut (by kernel_rfl) rfl fnE lawAll W (by rw[Cc];omega) base args ds gs before dJ hW (fun x _=>.inl (Nat.le_refl _))
theorem over:Rows.datamatrixRoundTripRow.holds Tryz.pinned (OpenSpec.ofChange Rows.datamatrixRoundTripSpec):=
 OpenClaim.holds_of_wide 7 Tryz.f7 rfl rfl rfl rfl rfl rfl rfl ⟨rfl,rfl,rfl,rfl,rfl⟩ rfl rfl rfl rfl rfl (by kernel_rfl) Tryz.func7 (by kernel_rfl)
  (of_decide_eq_true (by kernel_rfl)) (by unfold Func.isWrapper;first|(rw[if_pos (by decide +kernel)];kernel_rfl)|(rw[if_neg (by decide +kernel)];exact⟨rfl,rfl⟩))
  (fun os started H enc _=>lifted os started H enc)
theorem proved:Rows.DatamatrixRoundTripSaid:=over
#print axioms proved
end datamatrixRoundTrip
end Go.Proofs.YtmnlgdpdgjbfgaaGreat
