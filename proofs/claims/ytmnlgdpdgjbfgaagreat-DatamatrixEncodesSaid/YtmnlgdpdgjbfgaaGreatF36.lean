/- DatamatrixEncodes returns true for every payload and either choice of shapes: Encode agrees with the reference. No conditions. -/
import Derived.Test.YtmnlgdpdgjbfgaaGreatF12
import Derived.Test.YtmnlgdpdgjbfgaaGreatF35
set_option linter.all false
namespace Go.Proofs.YtmnlgdpdgjbfgaaGreat
open Go.Abs
namespace datamatrixEncodes
open Go.ChangeShapes Go.WideShapes Go.ChangeAt Go.RowKit
theorem fnE(X:Type)(ds:List (DataW X))(h:ds.length=2):Rows.datamatrixEncodesSpec.fn X ds=⟨[.lit (.bool true)],ds,[]⟩:=by
 match ds,h with
 | [d1,d2],_=>rfl
theorem lawAll(H:Heap)(vs:List Value)(h:nf maxLen H [.sl (.int .u8),.bool] vs):Ev cp H.length 5 vs H (fun v _=>v=.bool true):=by
 simp only[nf]at h;obtain⟨a1,r1,rfl,h1,a2,r2,rfl,h2,rfl⟩:=h;obtain⟨l,hl⟩:=EY h1;obtain⟨b,rfl⟩:=ER h2;exact Iy hl
set_option maxRecDepth 100000 in
theorem lifted(os:Os)(started:os.Started)(H:Type)(enc:TypeId×Value->H) :
  ReturnsInHanded {} Tryz.checked os 5 .any (Rows.datamatrixEncodesSpec.pre6 enc Tryz.prog Tryz.f5 Rows.datamatrixEncodesRow.domain false) (Rows.datamatrixEncodesSpec.post enc Tryz.prog Tryz.f5 false true false false):=by
 refine returnsInHanded_of_change (C:=Tryz.checked) own started (by kernel_rfl) Tryz.func5
  (ChangeSpec.witness6 (enc:=enc) (C:=Tryz.checked) false ⟨#[],#[.slice none 0 0,.bool false],[]⟩ 8 (by kernel_rfl) (by kernel_rfl) (by kernel_rfl) (by kernel_rfl)) ?_
 intro W base args ds gs before dS hW _ _;exact v9 (P:=Tryz.prog) (fn:=Tryz.f5) (s:=Rows.datamatrixEncodesSpec) Rl (d:=8) (tys:=[.sl (.int .u8),.bool]) (by kernel_rfl) (by kernel_rfl) (by kernel_rfl) Tryz.underlying4 laidOut (by kernel_rfl) rfl fnE lawAll W (by rw[DQ];omega) base args ds gs before dS hW (fun x _=>.inl (Nat.le_refl _))
theorem over:Rows.datamatrixEncodesRow.holds Tryz.pinned (OpenSpec.ofChange Rows.datamatrixEncodesSpec):=
 OpenClaim.holds_of_wide 5 Tryz.f5 rfl rfl rfl rfl rfl rfl rfl ⟨rfl,rfl,rfl,rfl,rfl⟩ rfl rfl rfl rfl rfl (by kernel_rfl) Tryz.func5 (by kernel_rfl)
  (of_decide_eq_true (by kernel_rfl)) (by unfold Func.isWrapper;first|(rw[if_pos (by decide +kernel)];kernel_rfl)|(rw[if_neg (by decide +kernel)];exact⟨rfl,rfl⟩))
  (fun os started H enc _=>lifted os started H enc)
theorem proved:Rows.DatamatrixEncodesSaid:=over
#print axioms proved
end datamatrixEncodes
end Go.Proofs.YtmnlgdpdgjbfgaaGreat
