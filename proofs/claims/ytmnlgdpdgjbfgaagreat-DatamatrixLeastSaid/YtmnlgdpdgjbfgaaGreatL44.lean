/- DatamatrixLeast returns true for every payload and either choice of shapes: the matrix has the least size that holds the codewords. No conditions. -/
import Derived.Test.YtmnlgdpdgjbfgaaGreatL12
import Derived.Test.YtmnlgdpdgjbfgaaGreatL43
set_option linter.all false
namespace Go.Proofs.YtmnlgdpdgjbfgaaGreat
open Go.Abs
namespace datamatrixLeast
open Go.ChangeShapes Go.WideShapes Go.ChangeAt Go.RowKit
theorem fnE(X:Type)(ds:List (DataW X))(h:ds.length=2):Rows.datamatrixLeastSpec.fn X ds=⟨[.lit (.bool true)],ds,[]⟩:=by
 match ds,h with
 | [d1,d2],_=>rfl
theorem lawAll(H:Heap)(vs:List Value)(h:nK maxLen H [.sl (.int .u8),.bool] vs):Ev cp H.length 10 vs H (fun v _=>v=.bool true):=by
 simp only[nK]at h;obtain⟨a1,r1,rfl,h1,a2,r2,rfl,h2,rfl⟩:=h;obtain⟨l,hl⟩:=Cl h1;obtain⟨b,rfl⟩:=Cg h2;exact HI hl
set_option maxRecDepth 100000 in
theorem lifted(os:Os)(started:os.Started)(H:Type)(enc:TypeId×Value->H) :
  ReturnsInHanded {} Tryz.checked os 10 .any (Rows.datamatrixLeastSpec.pre6 enc Tryz.prog Tryz.f10 Rows.datamatrixLeastRow.domain false) (Rows.datamatrixLeastSpec.post enc Tryz.prog Tryz.f10 false true false false):=by
 refine returnsInHanded_of_change (C:=Tryz.checked) own started (by kernel_rfl) Tryz.func10
  (ChangeSpec.witness6 (enc:=enc) (C:=Tryz.checked) false ⟨#[],#[.slice none 0 0,.bool false],[]⟩ 8 (by kernel_rfl) (by kernel_rfl) (by kernel_rfl) (by kernel_rfl)) ?_
 intro W base args ds gs before mh hW _ _;exact u9 (P:=Tryz.prog) (fn:=Tryz.f10) (s:=Rows.datamatrixLeastSpec) PH (d:=8) (tys:=[.sl (.int .u8),.bool]) (by kernel_rfl) (by kernel_rfl) (by kernel_rfl) Tryz.underlying4 laidOut (by kernel_rfl) rfl fnE lawAll W (by rw[Bh];omega) base args ds gs before mh hW (fun x _=>.inl (Nat.le_refl _))
theorem over:Rows.datamatrixLeastRow.holds Tryz.pinned (OpenSpec.ofChange Rows.datamatrixLeastSpec):=
 OpenClaim.holds_of_wide 10 Tryz.f10 rfl rfl rfl rfl rfl rfl rfl ⟨rfl,rfl,rfl,rfl,rfl⟩ rfl rfl rfl rfl rfl (by kernel_rfl) Tryz.func10 (by kernel_rfl)
  (of_decide_eq_true (by kernel_rfl)) (by unfold Func.isWrapper;first|(rw[if_pos (by decide +kernel)];kernel_rfl)|(rw[if_neg (by decide +kernel)];exact⟨rfl,rfl⟩))
  (fun os started H enc _=>lifted os started H enc)
theorem proved:Rows.DatamatrixLeastSaid:=over
#print axioms proved
end datamatrixLeast
end Go.Proofs.YtmnlgdpdgjbfgaaGreat
